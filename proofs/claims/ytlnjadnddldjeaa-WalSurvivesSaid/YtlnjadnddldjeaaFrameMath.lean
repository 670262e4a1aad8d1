/-
  Plain lists: a frame, a row of frames, the first frame of a row of bytes.
-/
import Derived.Test.YtlnjadnddldjeaaCrcMath
import Derived.Test.YtlnjadnddldjeaaWireMath
namespace Go.Proofs.Ytlnjadnddldjeaa
set_option linter.unusedVariables false
set_option linter.unusedSimpArgs false

/-- a record as bytes -/
def fframe (l : List UInt8) : List UInt8 := le 8 (l.length + 4) ++ sealed l
theorem fframe_length (l : List UInt8) : (fframe l).length = l.length + 12 := by
  rw [fframe, List.length_append, le_length, sealed_length]; omega
/-- the first record of a row of bytes, and how many bytes it takes -/
def fone (l : List UInt8) : Option (List UInt8 × Nat) :=
  if l.length < 8 then none
  else if 1048576 < num (l.take 8) ∨ l.length - 8 < num (l.take 8) then none
  else if opens ((l.drop 8).take (num (l.take 8))) = true then some (((l.drop 8).take (num (l.take 8))).drop 4, 8 + num (l.take 8)) else none
/-- records one behind the other -/
def fframes : List (List UInt8) → List UInt8
  | [] => []
  | r :: rs => fframe r ++ fframes rs
theorem fframes_append (rs qs : List (List UInt8)) : fframes (rs ++ qs) = fframes rs ++ fframes qs := by
  induction rs with
  | nil => rfl
  | cons r rs ih => rw [List.cons_append, fframes, fframes, ih, List.append_assoc]
theorem fframes_one (r : List UInt8) : fframes [r] = fframe r := by simp [fframes]

theorem le_num : ∀ {l : List UInt8} {k : Nat}, l.length = k → le k (num l) = l
  | [], k, h => by subst h; rfl
  | a :: l, k, h => by
    subst h
    have ih := le_num (l := l) rfl
    have ha := a.toNat_lt
    have e1 : (a.toNat + 256 * num l) % 256 = a.toNat := by omega
    have e2 : (a.toNat + 256 * num l) / 256 = num l := by omega
    show le (l.length + 1) (a.toNat + 256 * num l) = a :: l
    rw [le, e1, e2, ih]
    simp
theorem num_le8 {n : Nat} (h : n < 18446744073709551616) : num (le 8 n) = n := by
  rw [num_le]; exact Nat.mod_eq_of_lt (by have e : (256 : Nat) ^ 8 = 18446744073709551616 := by decide
                                          rw [e]; exact h)
theorem fone_frame (r t : List UInt8) (h : r.length ≤ 1048572) : fone (fframe r ++ t) = some (r, r.length + 12) := by
  have hl := fframe_length r
  have e8 : (fframe r ++ t).take 8 = le 8 (r.length + 4) := by
    rw [fframe, List.append_assoc, List.take_append_of_le_length (by rw [le_length]; omega), List.take_of_length_le (by rw [le_length]; omega)]
  have d8 : (fframe r ++ t).drop 8 = sealed r ++ t := by
    rw [fframe, List.append_assoc]
    exact List.drop_left' (le_length 8 _)
  have en : num (le 8 (r.length + 4)) = r.length + 4 := num_le8 (by omega)
  have et : (sealed r ++ t).take (r.length + 4) = sealed r := List.take_left' (sealed_length r)
  have hln : (fframe r ++ t).length = r.length + 12 + t.length := by rw [List.length_append, hl]
  rw [fone, e8, d8, en, et, if_neg (by rw [hln]; omega), if_neg (by rw [hln]; omega), if_pos (opens_sealed r), sealed_drop]
  congr 2; omega
theorem fone_some {l r : List UInt8} {m : Nat} (h : fone l = some (r, m)) : l = fframe r ++ l.drop m ∧ m = r.length + 12 ∧ r.length ≤ 1048572 ∧ m ≤ l.length := by
  unfold fone at h
  split at h
  · cases h
  split at h
  · cases h
  split at h
  · rename_i h1 h2 h3
    cases h
    have h1 : 8 ≤ l.length := by omega
    obtain ⟨x, hx⟩ : ∃ x, l.take 8 = x := ⟨_, rfl⟩
    obtain ⟨d, hd⟩ : ∃ d, l.drop 8 = d := ⟨_, rfl⟩
    have hld : l = x ++ d := by rw [← hx, ← hd, List.take_append_drop]
    have hxl : x.length = 8 := by rw [← hx, List.length_take]; omega
    have hdl : d.length = l.length - 8 := by rw [← hd, List.length_drop]
    rw [hx] at h2 h3 ⊢
    rw [hd] at h3 ⊢
    obtain ⟨n, hn⟩ : ∃ n, num x = n := ⟨_, rfl⟩
    rw [hn] at h2 h3 ⊢
    obtain ⟨h4, hs⟩ := (opens_iff _).1 h3
    have htl : (d.take n).length = n := by rw [List.length_take]; omega
    rw [htl] at h4
    have hrl : ((d.take n).drop 4).length = n - 4 := by rw [List.length_drop, htl]
    refine ⟨?_, by rw [hrl]; omega, by rw [hrl]; omega, by omega⟩
    rw [fframe, hs, hrl, show n - 4 + 4 = n by omega, ← hn, le_num hxl, hn]
    have e : l.drop (8 + n) = d.drop n := by rw [← hd, List.drop_drop]
    rw [e, List.append_assoc, List.take_append_drop, ← hld]
  · cases h
/-- what Scan finds -/
def Scanned (l : List UInt8) (rs : List (List UInt8)) (rest : List UInt8) : Prop := l = fframes rs ++ rest ∧ fone rest = none ∧ ∀ r, r ∈ rs → r.length ≤ 1048572
theorem Scanned.unique : ∀ {qs : List (List UInt8)} {rest' : List UInt8} {l : List UInt8} {rs : List (List UInt8)} {rest : List UInt8}, Scanned l rs rest → Scanned l qs rest' → rs = qs ∧ rest = rest'
  | [], rest', l, [], rest, h, h' => ⟨rfl, by have e := h.1.symm.trans h'.1; exact e⟩
  | q :: qs, rest', l, [], rest, h, h' => by
    have e : rest = fframe q ++ (fframes qs ++ rest') := by
      have e := h.1.symm.trans h'.1
      rw [fframes, fframes, List.append_assoc] at e; exact e
    have := h.2.1
    rw [e, fone_frame q _ (h'.2.2 q (by simp))] at this
    cases this
  | [], rest', l, r :: rs, rest, h, h' => by
    have e : rest' = fframe r ++ (fframes rs ++ rest) := by
      have e := h'.1.symm.trans h.1
      rw [fframes, fframes, List.append_assoc] at e; exact e
    have := h'.2.1
    rw [e, fone_frame r _ (h.2.2 r (by simp))] at this
    cases this
  | q :: qs, rest', l, r :: rs, rest, h, h' => by
    have e : fframe r ++ (fframes rs ++ rest) = fframe q ++ (fframes qs ++ rest') := by
      have e := h.1.symm.trans h'.1
      rw [fframes, fframes, List.append_assoc, List.append_assoc] at e; exact e
    have f1 := fone_frame r (fframes rs ++ rest) (h.2.2 r (by simp))
    have f2 := fone_frame q (fframes qs ++ rest') (h'.2.2 q (by simp))
    rw [e, f2] at f1
    cases f1
    have e2 := List.append_cancel_left e
    obtain ⟨h1, h2⟩ := Scanned.unique (l := fframes rs ++ rest) (rs := rs) (qs := qs) ⟨rfl, h.2.1, fun x hx => h.2.2 x (by simp [hx])⟩ ⟨e2, h'.2.1, fun x hx => h'.2.2 x (by simp [hx])⟩
    exact ⟨by rw [h1], h2⟩
/-- a frame that is cut off is none -/
theorem fone_cut {r t : List UInt8} {k : Nat} (h : r.length ≤ 1048572) (hk : k < r.length + 12) : fone ((fframe r).take k) = none := by
  have hl := fframe_length r
  have htl : ((fframe r).take k).length = k := by rw [List.length_take]; omega
  unfold fone
  rw [htl]
  by_cases h8 : k < 8
  · rw [if_pos h8]
  · have e8 : ((fframe r).take k).take 8 = le 8 (r.length + 4) := by
      rw [List.take_take, Nat.min_eq_left (by omega), fframe, List.take_append_of_le_length (by rw [le_length]; omega), List.take_of_length_le (by rw [le_length]; omega)]
    rw [if_neg h8, e8, num_le8 (by omega), if_pos (by omega)]
/-- a row of frames that is cut off: the frames ahead of the cut, and a rest that is none -/
theorem cut_frames : ∀ (rs : List (List UInt8)) (k : Nat), (∀ r, r ∈ rs → r.length ≤ 1048572) → k ≤ (fframes rs).length → ∃ j, j ≤ rs.length ∧ ∃ rest, Scanned ((fframes rs).take k) (rs.take j) rest
  | [], k, _, _ => ⟨0, Nat.le_refl _, [], by simp [fframes], by unfold fone; simp, by simp⟩
  | r :: rs, k, hr, hk => by
    have hl := fframe_length r
    by_cases hc : k < r.length + 12
    · refine ⟨0, Nat.zero_le _, (fframe r).take k, ?_, fone_cut (t := []) (hr r (by simp)) hc, by simp⟩
      rw [fframes, List.take_append_of_le_length (by omega)]; simp [fframes]
    · rw [fframes, List.length_append] at hk
      obtain ⟨j, hj, rest, h1, h2, h3⟩ := cut_frames rs (k - (r.length + 12)) (fun x hx => hr x (by simp [hx])) (by omega)
      refine ⟨j + 1, by simp; omega, rest, ?_, h2, ?_⟩
      · rw [fframes, List.take_succ_cons, fframes, List.take_append, List.take_of_length_le (by omega), hl, h1, List.append_assoc]
      · intro x hx
        rw [List.take_succ_cons] at hx
        rcases List.mem_cons.1 hx with rfl | hx
        · exact hr _ (by simp)
        · exact h3 x hx
theorem scanned_frames (rs : List (List UInt8)) (hr : ∀ r, r ∈ rs → r.length ≤ 1048572) : Scanned (fframes rs) rs [] := ⟨by simp, by unfold fone; simp, hr⟩
end Go.Proofs.Ytlnjadnddldjeaa
