/-
  Plain laws of saved session tables: a text of any length as bytes, and read again; records; tables. No program in sight. No condition.
-/
import Derived.Test.YtiibkbkcncmjoaaWireFew
import Derived.Test.YtiibkbkcncmjoaaTable2
namespace Go.Proofs.Ytiibkbkcncmjoaa
set_option linter.unusedVariables false
set_option linter.unusedSimpArgs false

/-- a text in pieces -/
def schunks : Nat → List UInt8 → List UInt8
  | 0, _ => []
  | g + 1, s => if s = [] then [] else le 2 (s.take 65535).length ++ (s.take 65535 ++ schunks g (s.drop 65535))
def sput (s : List UInt8) : List UInt8 := le 8 s.length ++ schunks s.length s
theorem schunks_length : ∀ (g : Nat) (s : List UInt8), (schunks g s).length ≤ s.length + 2 * ((s.length + 65534) / 65535)
  | 0, s => by simp [schunks]
  | g + 1, s => by
    rw [schunks]
    split
    · simp
    · rename_i h
      have hs : 0 < s.length := List.length_pos_iff.2 h
      have ih := schunks_length g (s.drop 65535)
      rw [List.length_append, List.length_append, le_length, List.length_take]
      rw [List.length_drop] at ih
      omega
theorem sput_length (s : List UInt8) : (sput s).length ≤ 8 + s.length + 2 * ((s.length + 65534) / 65535) := by
  have := schunks_length s.length s
  rw [sput, List.length_append, le_length]; omega

theorem rtext_cases (l : List UInt8) (most : Int) (s : RS) (hp : s.p ≤ l.length) : (rtext l most s).2.p ≤ l.length ∧ s.p ≤ (rtext l most s).2.p ∧ (rtext l most s).1.length ≤ 65535 ∧
    ((rtext l most s).2.y = 0 → s.p + 2 + (rtext l most s).1.length ≤ (rtext l most s).2.p) ∧ s.p + (rtext l most s).1.length ≤ (rtext l most s).2.p := by
  have hx := rtake_le l 2 s
  have hn := num_lt2 hx
  have h1 : (rtake l 2 s).2.p ≤ l.length ∧ s.p ≤ (rtake l 2 s).2.p ∧ ((rtake l 2 s).2.y = 0 → s.p + 2 ≤ (rtake l 2 s).2.p) := by
    unfold rtake
    split
    · split
      · exact ⟨hp, Nat.le_refl _, fun h => by simp at h⟩
      · exact ⟨by simp only; omega, by simp only; omega, fun _ => by simp only; omega⟩
    · rename_i hy
      exact ⟨hp, Nat.le_refl _, fun h => absurd h hy⟩
  unfold rtext
  generalize (rtake l 2 s).2 = t at h1 ⊢
  generalize num (rtake l 2 s).1 = n at hn ⊢
  obtain ⟨h2, h3, h4⟩ := h1
  split
  · exact ⟨h2, h3, by simp, fun h => by simp at h, by simpa using h3⟩
  · unfold rtake
    split
    · rename_i hy
      have h5 := h4 hy
      split
      · exact ⟨h2, h3, by simp, fun h => by simp at h, by simpa using h3⟩
      · refine ⟨?_, ?_, ?_, fun _ => ?_, ?_⟩ <;> simp only [List.length_take, List.length_drop] <;> omega
    · rename_i hy
      exact ⟨h2, h3, by simp, fun h => absurd h hy, by simpa using h3⟩

/-- the reading of a text of any length -/
def sgetL (l : List UInt8) (n : Int) : Nat → List UInt8 → RS → List UInt8 × RS
  | 0, out, s => (out, s)
  | g + 1, out, s => if (out.length : Int) < n ∧ s.y = 0 then sgetL l n g (out ++ (rtext l 65535 s).1) (if (rtext l 65535 s).1 = [] then rfail 12 (rtext l 65535 s).2 else (rtext l 65535 s).2) else (out, s)
def sget (l : List UInt8) (s : RS) : List UInt8 × RS := sgetL l (s64 (num (rtake l 8 s).1)) (l.length + 1) [] (rtake l 8 s).2
theorem sgetL_stop {l : List UInt8} {n : Int} {g : Nat} {out : List UInt8} {s : RS} (h : ¬ ((out.length : Int) < n ∧ s.y = 0)) : sgetL l n g out s = (out, s) := by
  cases g with
  | zero => rfl
  | succ g => rw [sgetL, if_neg h]
theorem rfail_y (why : Int) (s : RS) (h : why ≠ 0) : (rfail why s).y ≠ 0 := by
  unfold rfail
  split
  · exact h
  · rename_i hh
    intro e
    exact hh ⟨e, h⟩
theorem rfail_p (why : Int) (s : RS) : (rfail why s).p = s.p := by unfold rfail; split <;> rfl
/-- what a round of the reading hands on -/
theorem sget_round {l : List UInt8} {n : Int} {g : Nat} {out : List UInt8} {s : RS} (hp : s.p ≤ l.length) (hg : s.y = 0 → l.length - s.p < g) (hr : (out.length : Int) < n ∧ s.y = 0) :
    ∃ g', g' < g ∧ sgetL l n g out s = sgetL l n g' (out ++ (rtext l 65535 s).1) (if (rtext l 65535 s).1 = [] then rfail 12 (rtext l 65535 s).2 else (rtext l 65535 s).2) ∧
      ((if (rtext l 65535 s).1 = [] then rfail 12 (rtext l 65535 s).2 else (rtext l 65535 s).2).y = 0 → l.length - (if (rtext l 65535 s).1 = [] then rfail 12 (rtext l 65535 s).2 else (rtext l 65535 s).2).p < g') ∧
      (if (rtext l 65535 s).1 = [] then rfail 12 (rtext l 65535 s).2 else (rtext l 65535 s).2).p ≤ l.length := by
  have h0 := hg hr.2
  obtain ⟨g', rfl⟩ : ∃ g', g = g' + 1 := ⟨g - 1, by omega⟩
  obtain ⟨h1, h2, h3, h4, h5⟩ := rtext_cases l 65535 s hp
  refine ⟨g', by omega, by rw [sgetL, if_pos hr], ?_, ?_⟩
  · intro hy
    split at hy
    · exact absurd hy (rfail_y 12 _ (by decide))
    · rename_i hne
      rw [if_neg hne]
      have h6 := h4 hy
      have h7 : 0 < (rtext l 65535 s).1.length := List.length_pos_iff.2 hne
      omega
  · split
    · rw [rfail_p]; exact h1
    · exact h1
/-- how much is read where nothing is refused -/
theorem sgetL_size {l : List UInt8} {n : Int} : ∀ (g : Nat) (out : List UInt8) (s : RS) (c : Nat), s.p ≤ l.length → out.length ≤ 65535 * c →
    (sgetL l n g out s).2.p ≤ l.length ∧ s.p ≤ (sgetL l n g out s).2.p ∧ (sgetL l n g out s).1.length + s.p ≤ out.length + (sgetL l n g out s).2.p ∧
      ((sgetL l n g out s).2.y = 0 → ∃ d, (sgetL l n g out s).1.length ≤ 65535 * (c + d) ∧ s.p + 2 * d + (sgetL l n g out s).1.length ≤ (sgetL l n g out s).2.p + out.length)
  | 0, out, s, c, hp, hc => ⟨hp, Nat.le_refl _, Nat.le_refl _, fun _ => ⟨0, hc, by rw [sgetL]; simp only; omega⟩⟩
  | g + 1, out, s, c, hp, hc => by
    rw [sgetL]
    split
    · rename_i hr
      obtain ⟨h1, h2, h3, h4, h5⟩ := rtext_cases l 65535 s hp
      by_cases hx : (rtext l 65535 s).1 = []
      · rw [if_pos hx, hx, List.append_nil]
        have hy := rfail_y 12 (rtext l 65535 s).2 (by decide)
        rw [sgetL_stop (fun h => hy h.2)]
        refine ⟨by simp only [rfail_p]; exact h1, by simp only [rfail_p]; exact h2, by simp only [rfail_p]; omega, fun h => absurd h hy⟩
      · rw [if_neg hx]
        have ih := sgetL_size (n := n) g (out ++ (rtext l 65535 s).1) (rtext l 65535 s).2 (c + 1) h1 (by rw [List.length_append]; omega)
        rw [List.length_append] at ih
        obtain ⟨i1, i2, i3, i4⟩ := ih
        refine ⟨i1, Nat.le_trans h2 i2, by omega, fun h => ?_⟩
        obtain ⟨d, d1, d2⟩ := i4 h
        by_cases hy : (rtext l 65535 s).2.y = 0
        · have := h4 hy
          exact ⟨d + 1, by rw [show c + (d + 1) = c + 1 + d by omega]; exact d1, by omega⟩
        · rw [sgetL_stop (fun h => hy h.2)] at h
          exact absurd h hy
    · exact ⟨hp, Nat.le_refl _, Nat.le_refl _, fun _ => ⟨0, hc, by simp only; omega⟩⟩
theorem rtake_fwd {l : List UInt8} {n : Nat} {s : RS} (hp : s.p ≤ l.length) : (rtake l n s).2.p ≤ l.length ∧ s.p ≤ (rtake l n s).2.p ∧ ((rtake l n s).2.y = 0 → s.p + n ≤ (rtake l n s).2.p ∧ s.y = 0) := by
  unfold rtake
  split
  · rename_i hy
    split
    · exact ⟨hp, Nat.le_refl _, fun h => by simp at h⟩
    · exact ⟨by simp only; omega, by simp only; omega, fun _ => ⟨by simp only; omega, hy⟩⟩
  · rename_i hy
    exact ⟨hp, Nat.le_refl _, fun h => absurd h hy⟩
theorem sgetL_y {l : List UInt8} {n : Int} {g : Nat} {out : List UInt8} {s : RS} (hy : s.y ≠ 0) : (sgetL l n g out s).2.y ≠ 0 := by
  rw [sgetL_stop (fun h => hy h.2)]; exact hy
theorem sget_size {l : List UInt8} {s : RS} (hp : s.p ≤ l.length) : (sget l s).2.p ≤ l.length ∧ s.p ≤ (sget l s).2.p ∧ (sget l s).1.length ≤ l.length ∧
    ((sget l s).2.y = 0 → s.p + (sput (sget l s).1).length ≤ (sget l s).2.p ∧ s.y = 0) := by
  obtain ⟨h1, h2, h3⟩ := rtake_fwd (n := 8) hp
  have h4 := sgetL_size (l := l) (n := s64 (num (rtake l 8 s).1)) (l.length + 1) [] (rtake l 8 s).2 0 h1 (by simp)
  have h5 := sput_length (sget l s).1
  unfold sget at h5 ⊢
  generalize hR : sgetL l (s64 (num (rtake l 8 s).1)) (l.length + 1) [] (rtake l 8 s).2 = r at h4 h5 ⊢
  obtain ⟨i1, i2, i3, i4⟩ := h4
  simp only [List.length_nil] at i3 i4
  refine ⟨i1, Nat.le_trans h2 i2, by omega, fun h => ?_⟩
  obtain ⟨d, d1, d2⟩ := i4 h
  have hy : (rtake l 8 s).2.y = 0 := by
    by_cases hh : (rtake l 8 s).2.y = 0
    · exact hh
    · have := sgetL_y (l := l) (n := s64 (num (rtake l 8 s).1)) (g := l.length + 1) (out := []) hh
      rw [hR] at this
      exact absurd h this
  obtain ⟨h6, h7⟩ := h3 hy
  exact ⟨by omega, h7⟩

/-- what was put is got -/
theorem sgetL_at {l : List UInt8} {n : Int} : ∀ (h : Nat) (rest out pre post : List UInt8) (p g : Nat) (z : Int), l = pre ++ (schunks h rest ++ post) → p = pre.length → rest.length ≤ h → ((out.length + rest.length : Nat) : Int) = n → l.length - p < g →
    sgetL l n g out ⟨p, 0, z⟩ = (out ++ rest, ⟨p + (schunks h rest).length, 0, z⟩)
  | 0, rest, out, pre, post, p, g, z, hl, hp, hr, hn, hg => by
    obtain rfl : rest = [] := List.eq_nil_of_length_eq_zero (by omega)
    rw [sgetL_stop (fun h => by have := h.1; simp at hn; omega)]
    simp [schunks]
  | h + 1, rest, out, pre, post, p, g, z, hl, hp, hr, hn, hg => by
    by_cases he : rest = []
    · subst he
      rw [sgetL_stop (fun h => by have := h.1; simp at hn; omega)]
      simp [schunks]
    · have hpos : 0 < rest.length := List.length_pos_iff.2 he
      obtain ⟨g', rfl⟩ : ∃ g', g = g' + 1 := ⟨g - 1, by omega⟩
      rw [schunks, if_neg he] at hl ⊢
      have htl : (rest.take 65535).length ≤ 65535 := by rw [List.length_take]; omega
      have hll := congrArg List.length hl
      simp only [List.length_append, le_length] at hll
      have ht0 : rest.take 65535 ≠ [] := fun e => by have := congrArg List.length e; rw [List.length_take, List.length_nil] at this; omega
      have hx := rtext_at (l := l) (pre := pre) (s := rest.take 65535) (post := schunks h (rest.drop 65535) ++ post) (p := p) (z := z) (most := 65535) (by rw [hl]; simp) hp (by omega) (by omega)
      rw [sgetL, if_pos ⟨by omega, rfl⟩, hx]
      simp only
      rw [if_neg ht0]
      have hpl : (pre ++ (le 2 (rest.take 65535).length ++ rest.take 65535)).length = p + 2 + (rest.take 65535).length := by simp only [List.length_append, le_length]; omega
      have ih := sgetL_at (l := l) (n := n) h (rest.drop 65535) (out ++ rest.take 65535) (pre ++ (le 2 (rest.take 65535).length ++ rest.take 65535)) post (p + 2 + (rest.take 65535).length) g' z (by rw [hl]; simp) hpl.symm (by rw [List.length_drop]; omega)
        (by rw [List.length_append, List.length_drop, List.length_take]; omega) (by omega)
      rw [ih]
      simp only [List.append_assoc, List.take_append_drop, List.length_append, le_length]
      congr 2
      omega
theorem sget_at {l pre s post : List UInt8} {p : Nat} {z : Int} (hl : l = pre ++ (sput s ++ post)) (hp : p = pre.length) (hs : s.length < 9223372036854775808) : sget l ⟨p, 0, z⟩ = (s, ⟨p + (sput s).length, 0, z⟩) := by
  have h1 : rtake l 8 ⟨p, 0, z⟩ = (le 8 s.length, ⟨p + 8, 0, z⟩) := rtake_at (post := schunks s.length s ++ post) (by rw [hl, sput]; simp) hp (le_length _ _).symm
  have h2 : s64 (num (le 8 s.length)) = (s.length : Int) := by
    rw [num_le, Nat.mod_eq_of_lt (by simp; omega)]
    unfold s64
    rw [if_pos (by omega)]
  unfold sget
  rw [h1]
  simp only [h2]
  rw [sgetL_at s.length s [] (pre ++ le 8 s.length) post (p + 8) (l.length + 1) z (by rw [hl, sput]; simp) (by rw [List.length_append, le_length, hp]) (Nat.le_refl _) (by simp) (by omega)]
  rw [sput, List.length_append, le_length, Nat.add_assoc]
  rfl
end Go.Proofs.Ytiibkbkcncmjoaa
