/-
  Contracts of the small functions on bytes that the disk and the sum lean on: slices.Clone, slices.Equal, and the statements' own helpers.
-/
import Derived.Test.YtlnjadnddldjeaaBase
import Derived.Test.YtlnjadnddldjeaaChecked
import Derived.WalkSpells
import Derived.WalkLawsBesides
import Derived.LoopTactic
import Derived.Deep.LoopGhost
import Derived.Deep.RegionLaw
import Derived.Deep.QuietTactic
import Derived.BigQuiet
import Derived.Outline
namespace Go.Proofs.Ytlnjadnddldjeaa
open Go.RowKit
set_option linter.unusedVariables false

theorem bytesApp : AppT Try.prog 31 31 5 1 := by
  obtain ⟨i, hi, hz, hs, hb⟩ := info_parts (P := Try.prog) (e := 5) (z := .int .u8 0) (size := 1) (bytes := 1) (by kernel_rfl)
  exact ⟨Try.underlying31, .inl ⟨_, Try.underlying31⟩, i, _, hi, hz, hs, hb, rfl⟩

/-- what slices.Clone leaves: the same bytes in memory of their own -/
def Cloned (w : World) (n : Nat) (l : List UInt8) (e : Ending) (w' : World) : Prop :=
  ∃ own A cap, e = .returned (.slice A n cap) ∧ Own w' 5 own A n cap (bv l) ∧ (∀ g, own = some g → w.heap.size ≤ g) ∧ Chg (fun _ => False) w w'

theorem Clone_calls {w : World} {S : Nat → Prop} {A : Option Addr} {n c : Nat} {l : List UInt8} (h : Cs w S A n (bv l)) (hn : n ≤ 140737488355328) :
    Calls Try.prog 37 #[.slice A n c] w (Cloned w n l) := by
  cases A with
  | none =>
    have hn0 : n = 0 := by
      rcases Nat.eq_zero_or_pos n with h0 | h0
      · exact h0
      · obtain ⟨_, _, e, _⟩ := h.2 h0; cases e
    subst hn0
    have hl : bv l = [] := List.eq_nil_of_length_eq_zero h.1
    have H := Lib.hid hl
    clear hl h
    have hz := @Lib.run_eql_slice_nil Try.prog
    go_enter Try.func37, Try.ntmps37
    go_wp2_with fail
    go_ret
    exact ⟨none, none, 0, rfl, (by rw [H.out]; exact Own.nil_ _ _ _), (fun g hg => by simp at hg), Chg.refl _ _⟩
  | some a =>
    have hz := @Lib.run_eql_slice_nil Try.prog
    have hl : l.length = n := by rw [← bv_length]; exact h.1
    have h1 : Cs (w.alloc (.cells #[] 5)) S (some a) n (bv l) := h.chg ((Chg.refl (fun _ => False) w).alloc _) (fun _ _ _ hf => hf)
    go_enter Try.func37, Try.ntmps37
    go_wp2_with (at_builtin; refine wpList_append rfl _ _ 31 31 rfl 5 1 bytesApp none _ 0 0 [] (bv l) _ rfl rfl (Own.nil_ _ _ _) (Src.slice h1) (bv_one l) n ?_ (by omega) (by omega) ?_)
    · simpa [bv_length] using hl
    · intro own' A' cap' w' hown hor hchg
      go_wp2_with fail
      go_ret
      refine ⟨own', A', cap', rfl, hown, fun g hg => ?_, (((Chg.refl (fun _ => False) w).alloc _).trans hchg (fun _ _ hf => hf))⟩
      rcases hor with h0 | h0
      · rw [h0] at hg; simp at hg
      · rw [h0] at hg; simp at hg; omega

theorem take_snoc_eq {l r : List UInt8} {k : Nat} (h1 : k < l.length) (h2 : k < r.length) (h : l.take k = r.take k) (he : l[k] = r[k]) : l.take (k + 1) = r.take (k + 1) := by
  rw [List.take_succ_eq_append_getElem h1, List.take_succ_eq_append_getElem h2, h, he]
theorem ne_of_getElem {l r : List UInt8} {k : Nat} (h1 : k < l.length) (h2 : k < r.length) (he : l[k] ≠ r[k]) : (l == r) = false := by
  rw [beq_eq_false_iff_ne]
  rintro rfl
  exact he rfl
theorem eq_of_take {l r : List UInt8} {k : Nat} (h1 : l.length = k) (h2 : r.length = k) (h : l.take k = r.take k) : (l == r) = true := by
  rw [List.take_of_length_le (by omega), List.take_of_length_le (by omega)] at h
  rw [h]
  exact beq_self_eq_true _
theorem ret_bool {a b : Bool} (h : a = b) : Ending.returned (.bool a) = .returned (.bool b) := by rw [h]
theorem byte_ne {x y : UInt8} (h : x ≠ y) : (((x.toNat : Int)) != (y.toNat : Int)) = true := by
  rw [bne_iff_ne]
  intro e
  exact h (UInt8.toNat_inj.1 (by omega))

set_option maxHeartbeats 400000 in
theorem Equal_calls {w : World} {S S' : Nat → Prop} {A A' : Option Addr} {n n' c c' : Nat} {l r : List UInt8} (h : Cs w S A n (bv l)) (h' : Cs w S' A' n' (bv r))
    (hm : n ≤ 9223372036854775807) (hm' : n' ≤ 9223372036854775807) :
    Calls Try.prog 58 #[.slice A n c, .slice A' n' c'] w fun e w' => e = .returned (.bool (l == r)) ∧ ∃ q, w' = w.drewN q := by
  have hl : l.length = n := by rw [← bv_length]; exact h.1
  have hr : r.length = n' := by rw [← bv_length]; exact h'.1
  by_cases hne : n = n'
  · subst hne
    have HL := Lib.hid hl
    have HR := Lib.hid hr
    clear hl hr
    have hb : ((n : Int) != (n : Int)) = false := by simp
    go_enter Try.func58, Try.ntmps58
    go_wp2_with fail
    go_loopw [13] (fun i wr => ∃ k q : Nat, k ≤ n ∧ i = .int .i64 k ∧ Hid (l.take k = r.take k) ∧ wr = w.drewN q) (fun i _ => n - (intOf i).toNat)
    case atStart => exact ⟨0, 0, Nat.zero_le _, rfl, Lib.hid (by simp), rfl⟩
    case round =>
      obtain ⟨k, q, hk, rfl, HT, rfl⟩ := hrel
      by_cases hlt : k < n
      · have k1 : k < l.length := by have := HL.out; omega
        have k2 : k < r.length := by have := HR.out; omega
        obtain ⟨b, off, rfl, _, hc⟩ := h.2 (by omega)
        obtain ⟨b', off', rfl, _, hc'⟩ := h'.2 (by omega)
        have c1 := hc k _ (bv_get k1)
        have c2 := hc' k _ (bv_get k2)
        have HC := Lib.hid hc
        have HC' := Lib.hid hc'
        clear hc hc'
        obtain ⟨x, hx⟩ : ∃ x, l[k] = x := ⟨_, rfl⟩
        obtain ⟨y, hy⟩ : ∃ y, r[k] = y := ⟨_, rfl⟩
        rw [hx] at c1
        rw [hy] at c2
        have HX := Lib.hid hx
        have HY := Lib.hid hy
        clear hx hy
        by_cases hxy : x = y
        · subst hxy
          have hbx : ((x.toNat : Int) != (x.toNat : Int)) = false := by simp
          go_wp2_with fail
          go_quiet (fail)
          go_wp2_with fail
          go_roundw
          case rel => exact ⟨k + 1, q + nq, by omega, by go_num, Lib.hid (take_snoc_eq k1 k2 HT.out (by rw [HX.out, HY.out])), by simp⟩
          case measure => simp [intOf]; omega
        · have hbx := byte_ne hxy
          have HXY := Lib.hid hxy
          clear hxy
          go_wp2_with fail
          go_quiet (fail)
          go_wp2_with fail
          go_ret
          exact ⟨ret_bool (ne_of_getElem k1 k2 (by rw [HX.out, HY.out]; exact HXY.out)).symm, q + nq, by simp⟩
      · have hkn : n ≤ k := by omega
        go_wp2_with fail
        go_ret
        exact ⟨ret_bool (eq_of_take (k := k) (by have := HL.out; omega) (by have := HR.out; omega) HT.out).symm, _, rfl⟩
  · have hb : ((n : Int) != (n' : Int)) = true := by rw [bne_iff_ne]; omega
    have hlr : (l == r) = false := by
      rw [beq_eq_false_iff_ne]
      rintro rfl
      omega
    have H := Lib.hid hlr
    clear hlr hl hr hne
    go_enter Try.func58, Try.ntmps58
    go_wp2_with fail
    go_ret
    exact ⟨ret_bool H.out.symm, 0, rfl⟩
/-- a number brought into 0 .. h -/
def InRange (h : Int) (w : World) (e : Ending) (w' : World) : Prop := ∃ r : Nat, (r : Int) ≤ h ∧ e = .returned (.int .i64 r) ∧ w' = w
theorem Within_calls (n h : Int) (w : World) (h0 : 0 ≤ h) (h1 : h ≤ 4611686018427387904) (n0 : -9223372036854775808 ≤ n) (n1 : n ≤ 9223372036854775807) :
    Calls Try.prog 18 #[.int .i64 n, .int .i64 0, .int .i64 h] w (InRange h w) := by
  have b1 : -(h + 1) < n.tmod (h + 1) := Int.lt_tmod_of_pos n (by omega)
  have b2 : n.tmod (h + 1) < h + 1 := Int.tmod_lt_of_pos n (by omega)
  obtain ⟨r, hr⟩ : ∃ r, n.tmod (h + 1) = r := ⟨_, rfl⟩
  rw [hr] at b1 b2
  by_cases hn : r < 0
  all_goals
    go_enter Try.func18, Try.ntmps18
    go_wp2_with fail
    go_ret
  · exact ⟨(r + h + 1).toNat, by omega, by simp; omega, rfl⟩
  · exact ⟨r.toNat, by omega, by simp; omega, rfl⟩

/-- what Roomy leaves: the bytes, and 80 marks behind them, in one new block -/
def Roomed (w : World) (n : Nat) (l : List UInt8) (m : UInt8) (e : Ending) (w' : World) : Prop :=
  ∃ g, e = .returned (.slice (some ⟨g, 0, none⟩) (n + 80) (n + 80)) ∧ Own w' 5 (some g) (some ⟨g, 0, none⟩) (n + 80) (n + 80) (bv (l ++ List.replicate 80 m)) ∧ w.heap.size ≤ g ∧ Chg (fun _ => False) w w'

end Go.Proofs.Ytlnjadnddldjeaa
