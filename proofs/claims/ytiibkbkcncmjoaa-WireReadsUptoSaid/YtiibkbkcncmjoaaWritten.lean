/-
  The document's own bytes of parts (the laws' helper 'written'): a plain list, and the walk through it.
-/
import Derived.Test.YtiibkbkcncmjoaaWireBackMath
import Derived.Test.YtiibkbkcncmjoaaRefWire
namespace Go.Proofs.Ytiibkbkcncmjoaa
open Go.RowKit
set_option linter.unusedVariables false
set_option linter.unusedSimpArgs false

/-- the bytes of one part: 1 Byte, 2 Short, 3 Long, 4 Text -/
def wchunk (q : Int × Int × Int × ByteArray) : List UInt8 :=
  if q.1 = 1 then le 1 (u64 q.2.1) else if q.1 = 2 then le 2 (u64 q.2.1) else if q.1 = 3 then le 8 (u64 q.2.2.1) else if q.1 = 4 then le 2 q.2.2.2.size ++ q.2.2.2.data.toList else []
def wall (q : Nat → Int × Int × Int × ByteArray) : Nat → List UInt8
  | 0 => []
  | i + 1 => wall q i ++ wchunk (q i)
theorem wchunk_length (q : Int × Int × Int × ByteArray) : (wchunk q).length ≤ 8 + q.2.2.2.size := by
  have e : q.2.2.2.data.toList.length = q.2.2.2.size := by rw [Array.length_toList]; rfl
  unfold wchunk
  split
  · rw [le_length]; omega
  split
  · rw [le_length]; omega
  split
  · rw [le_length]; omega
  split
  · rw [List.length_append, le_length, e]; omega
  · simp
theorem wall_length {q : Nat → Int × Int × Int × ByteArray} {n : Nat} (h : ∀ i, i < n → (q i).2.2.2.size ≤ 1048576) : ∀ i, i ≤ n → (wall q i).length ≤ i * 1048584
  | 0, _ => by simp [wall]
  | i + 1, hi => by
    have h1 := wall_length h i (by omega)
    have h2 := wchunk_length (q i)
    have h3 := h i (by omega)
    rw [wall, List.length_append]
    omega

/-- the parts of an argument as a function, laid for a walk -/
def Parts (q : Nat → Int × Int × Int × ByteArray) (w : World) (A : Option Addr) (n : Nat) : Prop :=
  0 < n → ∃ b off, A = some ⟨b, off, none⟩ ∧ b < w.heap.size ∧ ∀ i, i < n → (w.cell? ⟨b, off + i * 4, none⟩ = some (.int .i64 (q i).1) ∧ w.cell? ⟨b, off + i * 4 + 1, none⟩ = some (.int .i64 (q i).2.1) ∧ w.cell? ⟨b, off + i * 4 + 2, none⟩ = some (.int .i64 (q i).2.2.1) ∧ w.cell? ⟨b, off + i * 4 + 3, none⟩ = some (.string (q i).2.2.2)) ∧
      (-9223372036854775808 ≤ (q i).1 ∧ (q i).1 ≤ 9223372036854775807) ∧ (-9223372036854775808 ≤ (q i).2.1 ∧ (q i).2.1 ≤ 9223372036854775807) ∧ (-9223372036854775808 ≤ (q i).2.2.1 ∧ (q i).2.2.1 ≤ 9223372036854775807) ∧ (q i).2.2.2.size ≤ 1048576
theorem parts_of {w : World} {A : Option Addr} {n c : Nat} (hp : PartsArg 1048576 w A n c) : ∃ q, Parts q w A n := by
  obtain ⟨_, _, hall⟩ := hp
  rcases Nat.eq_zero_or_pos n with h0 | h0
  · exact ⟨fun _ => (0, 0, 0, ⟨#[]⟩), fun h => absurd h (by omega)⟩
  · obtain ⟨b, off, e, hb, hat⟩ := hall h0
    obtain ⟨q, hq⟩ := parts_fun hat
    exact ⟨q, fun _ => ⟨b, off, e, hb, fun i hi => by
      obtain ⟨q0, q1, q2, q3, r⟩ := hq i hi
      exact ⟨⟨q0, q1, q2, q3⟩, r⟩⟩⟩
theorem Parts.small {q : Nat → Int × Int × Int × ByteArray} {w : World} {A : Option Addr} {n : Nat} (h : Parts q w A n) : ∀ i, i < n → (q i).2.2.2.size ≤ 1048576 := fun i hi => by
  obtain ⟨b, off, _, _, hat⟩ := h (by omega)
  exact (hat i hi).2.2.2.2
theorem Parts.chg {T : Nat → Prop} {q : Nat → Int × Int × Int × ByteArray} {w w' : World} {A : Option Addr} {n : Nat} (h : Parts q w A n) (hc : Chg T w w') (hd : ∀ k, k < w.heap.size → ¬ T k) : Parts q w' A n := fun h0 => by
  obtain ⟨b, off, e, hb, hat⟩ := h h0
  refine ⟨b, off, e, Nat.lt_of_lt_of_le hb hc.size, fun i hi => ?_⟩
  obtain ⟨⟨q0, q1, q2, q3⟩, r⟩ := hat i hi
  exact ⟨⟨hc.cell q0 (hd b hb), hc.cell q1 (hd b hb), hc.cell q2 (hd b hb), hc.cell q3 (hd b hb)⟩, r⟩

set_option maxRecDepth 100000 in
set_option maxHeartbeats 4000000 in
theorem written_calls {w : World} {A : Option Addr} {n c : Nat} {q : Nat → Int × Int × Int × ByteArray} (hq : Parts q w A n) (hn : n ≤ c) (hc : c ≤ 9223372036854775807) :
    Calls Try.prog 23 #[.slice A n c] w (Cloned w (wall q (min n 40)).length (wall q (min n 40))) := by
  have hwl := wall_length hq.small
  have HWL := Lib.hid hwl
  have HQ := Lib.hid hq
  clear hwl hq
  go_enter Try.func23, Try.ntmps23
  go_wp2_with fail
  go_loopw [3, 4] (fun v i wr => ∃ (I m : Nat) (own : Option Nat) (X : Option Addr) (cap : Nat) (l : List UInt8), I ≤ n ∧ I ≤ 40 ∧ i = .int .i64 I ∧ v = .slice X m cap ∧ Hid (l = wall q I) ∧ l.length = m ∧ m ≤ I * 1048584 ∧ Own wr 5 own X m cap (bv l) ∧ Hid (∀ g, own = some g → w.heap.size ≤ g) ∧ Chg (fun _ => False) w wr) (fun _ i _ => n - (intOf i).toNat)
  case atStart => exact ⟨0, 0, none, none, 0, [], Nat.zero_le _, Nat.zero_le _, rfl, rfl, Lib.hid rfl, rfl, Nat.zero_le _, Own.nil_ _ _ _, Lib.hid (fun g h => by cases h), Chg.refl _ _⟩
  case round =>
    obtain ⟨I, m, own, X, cap, l, hI1, hI2, rfl, rfl, HW, hlm, hm, hown, HN, hcw⟩ := hrel
    have HLM := Lib.hid hlm
    clear hlm
    by_cases hrun : I < n ∧ I < 40
    · obtain ⟨hlt, h40⟩ := hrun
      obtain ⟨b, off, rfl, hbw, hat⟩ := HQ.out (by omega)
      obtain ⟨⟨q0, q1, q2, q3⟩, bk, bm, bd, bs⟩ := hat I hlt
      have q0 := hcw.cell q0 (fun h => h)
      have q1 := hcw.cell q1 (fun h => h)
      have q2 := hcw.cell q2 (fun h => h)
      have q3 := hcw.cell q3 (fun h => h)
      have hnext : ∀ x, wchunk (q I) = x → wall q (I + 1) = l ++ x := fun x hx => by rw [wall, HW.out, hx]
      unfold wchunk at hnext
      obtain ⟨k, hk⟩ : ∃ k, (q I).1 = k := ⟨_, rfl⟩
      obtain ⟨a, ha⟩ : ∃ a, (q I).2.1 = a := ⟨_, rfl⟩
      obtain ⟨d, hd⟩ : ∃ d, (q I).2.2.1 = d := ⟨_, rfl⟩
      obtain ⟨s, hs⟩ : ∃ s, (q I).2.2.2 = s := ⟨_, rfl⟩
      rw [hk] at q0 hnext
      rw [ha] at q1 bm hnext
      rw [hd] at q2 bd hnext
      rw [hs] at q3 bs hnext
      have hcs := hown.cs
      have hcm := hown.capMax
      have hfit := hown.fits
      clear hk ha hd hs bk hat
      have hm9 : m ≤ (I + 1) * 1048584 := Nat.le_trans hm (Nat.mul_le_mul_right _ (Nat.le_succ I))
      by_cases k1 : k = 1
      · subst k1
        have HX := Lib.hid (hnext _ (if_pos rfl))
        clear hnext
        go_wp2_with fail
        refine (RefByte_calls hcs a (by omega)).mono ?_
        rintro e w2 ⟨o2, A2, c2, rfl, hown2, hn2, hc2⟩
        go_wp2_with fail
        go_roundw
        case rel => exact ⟨I + 1, m + 1, o2, A2, c2, _, by omega, by omega, by go_num, rfl, Lib.hid HX.out.symm, by rw [List.length_append, HLM.out, le_length], by omega, hown2, Lib.hid (fun g h => by have := hn2 g h; have := hcw.size; omega), hcw.trans hc2 (fun _ _ h => h)⟩
        case measure => simp [intOf]; omega
      have hk1 : (k == 1) = false := beq_eq_false_iff_ne.2 k1
      by_cases k2 : k = 2
      · subst k2
        have HX := Lib.hid (hnext _ (by rw [if_neg (by decide), if_pos rfl]))
        clear hnext hk1
        go_wp2_with fail
        refine (RefShort_calls hcs a bm (by omega)).mono ?_
        rintro e w2 ⟨o2, A2, c2, rfl, hown2, hn2, hc2⟩
        go_wp2_with fail
        go_roundw
        case rel => exact ⟨I + 1, m + 2, o2, A2, c2, _, by omega, by omega, by go_num, rfl, Lib.hid HX.out.symm, by rw [List.length_append, HLM.out, le_length], by omega, hown2, Lib.hid (fun g h => by have := hn2 g h; have := hcw.size; omega), hcw.trans hc2 (fun _ _ h => h)⟩
        case measure => simp [intOf]; omega
      have hk2 : (k == 2) = false := beq_eq_false_iff_ne.2 k2
      by_cases k3 : k = 3
      · subst k3
        have HX := Lib.hid (hnext _ (by rw [if_neg (by decide), if_neg (by decide), if_pos rfl]))
        clear hnext hk1 hk2
        go_wp2_with fail
        refine (RefLong_calls hcs d bd (by omega)).mono ?_
        rintro e w2 ⟨o2, A2, c2, rfl, hown2, hn2, hc2⟩
        go_wp2_with fail
        go_roundw
        case rel => exact ⟨I + 1, m + 8, o2, A2, c2, _, by omega, by omega, by go_num, rfl, Lib.hid HX.out.symm, by rw [List.length_append, HLM.out, le_length], by omega, hown2, Lib.hid (fun g h => by have := hn2 g h; have := hcw.size; omega), hcw.trans hc2 (fun _ _ h => h)⟩
        case measure => simp [intOf]; omega
      have hk3 : (k == 3) = false := beq_eq_false_iff_ne.2 k3
      by_cases k4 : k = 4
      · subst k4
        have HX := Lib.hid (hnext _ (by rw [if_neg (by decide), if_neg (by decide), if_neg (by decide), if_pos rfl]))
        clear hnext hk1 hk2 hk3
        go_wp2_with fail
        refine (RefText_calls hcs s (by omega)).mono ?_
        rintro e w2 ⟨o2, A2, c2, rfl, hown2, hn2, hc2⟩
        have hse : s.data.toList.length = s.size := by rw [Array.length_toList]; rfl
        have HSE := Lib.hid hse
        clear hse
        go_wp2_with fail
        go_roundw
        case rel => exact ⟨I + 1, m + 2 + s.size, o2, A2, c2, _, by omega, by omega, by go_num, rfl, Lib.hid HX.out.symm, by rw [List.length_append, List.length_append, HLM.out, le_length, HSE.out]; omega, by omega, hown2, Lib.hid (fun g h => by have := hn2 g h; have := hcw.size; omega), hcw.trans hc2 (fun _ _ h => h)⟩
        case measure => simp [intOf]; omega
      have hk4 : (k == 4) = false := beq_eq_false_iff_ne.2 k4
      have HX := Lib.hid (hnext _ (by rw [if_neg k1, if_neg k2, if_neg k3, if_neg k4]))
      clear hnext
      go_wp2_with fail
      go_roundw
      case rel => exact ⟨I + 1, m, own, X, cap, l, by omega, by omega, by go_num, rfl, Lib.hid (HX.out.trans (List.append_nil l)).symm, HLM.out, hm9, hown, HN, hcw⟩
      case measure => simp [intOf]; omega
    · have hcase : (¬ I < n ∧ I = min n 40) ∨ (I < n ∧ ¬ I < 40 ∧ I = min n 40) := by omega
      have hIe : I = min n 40 := by omega
      have HI := Lib.hid hIe
      have hcase : ¬ I < n ∨ (I < n ∧ ¬ I < 40) := by omega
      clear hIe
      rcases hcase with hIn | ⟨hIn, hI40⟩
      all_goals
        go_wp2_with fail
        go_ret
        refine ⟨own, X, cap, ?_, ?_, HN.out, hcw⟩
        · rw [← HI.out, ← HW.out, HLM.out]; rfl
        · rw [← HI.out, ← HW.out, HLM.out]; exact hown
end Go.Proofs.Ytiibkbkcncmjoaa
