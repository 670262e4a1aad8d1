/-
  Contracts of the small functions on bytes that the wire leans on: slices.Clone, and the statements' own helpers Same, Roomy, Intact. No condition.
-/
import Derived.Test.YtiibkbkcncmjoaaBase
import Derived.Test.YtiibkbkcncmjoaaChecked
import Derived.WalkSpells
import Derived.WalkLawsBesides
import Derived.LoopTactic
import Derived.Deep.LoopGhost
import Derived.Deep.RegionLaw
import Derived.Deep.QuietTactic
import Derived.BigQuiet
import Derived.Outline
namespace Go.Proofs.Ytiibkbkcncmjoaa
open Go.RowKit
set_option linter.unusedVariables false

theorem bytesApp : AppT Try.prog 22 22 5 1 := by
  obtain ⟨i, hi, hz, hs, hb⟩ := info_parts (P := Try.prog) (e := 5) (z := .int .u8 0) (size := 1) (bytes := 1) (by kernel_rfl)
  exact ⟨Try.underlying22, .inl ⟨_, Try.underlying22⟩, i, _, hi, hz, hs, hb, rfl⟩

/-- what slices.Clone leaves: the same bytes in memory of their own -/
def Cloned (w : World) (n : Nat) (l : List UInt8) (e : Ending) (w' : World) : Prop :=
  ∃ own A cap, e = .returned (.slice A n cap) ∧ Own w' 5 own A n cap (bv l) ∧ (∀ g, own = some g → w.heap.size ≤ g) ∧ Chg (fun _ => False) w w'

theorem Clone_calls {w : World} {S : Nat → Prop} {A : Option Addr} {n c : Nat} {l : List UInt8} (h : Cs w S A n (bv l)) (hn : n ≤ 140737488355328) :
    Calls Try.prog 49 #[.slice A n c] w (Cloned w n l) := by
  cases A with
  | none =>
    have hn0 : n = 0 := by
      rcases Nat.eq_zero_or_pos n with h0 | h0
      · exact h0
      · obtain ⟨_, _, e, _⟩ := h.2 h0; cases e
    subst hn0
    have hl : bv l = [] := List.eq_nil_of_length_eq_zero h.1
    have H := Lib.hid hl
    clear hl h
    have hz := @Lib.run_eql_slice_nil Try.prog
    go_enter Try.func49, Try.ntmps49
    go_wp2_with fail
    go_ret
    exact ⟨none, none, 0, rfl, (by rw [H.out]; exact Own.nil_ _ _ _), (fun g hg => by simp at hg), Chg.refl _ _⟩
  | some a =>
    have hz := @Lib.run_eql_slice_nil Try.prog
    have hl : l.length = n := by rw [← bv_length]; exact h.1
    have h1 : Cs (w.alloc (.cells #[] 5)) S (some a) n (bv l) := h.chg ((Chg.refl (fun _ => False) w).alloc _) (fun _ _ _ hf => hf)
    go_enter Try.func49, Try.ntmps49
    go_wp2_with (at_builtin; refine wpList_append rfl _ _ 22 22 rfl 5 1 bytesApp none _ 0 0 [] (bv l) _ rfl rfl (Own.nil_ _ _ _) (Src.slice h1) (bv_one l) n ?_ (by omega) (by omega) ?_)
    · simpa [bv_length] using hl
    · intro own' A' cap' w' hown hor hchg
      go_wp2_with fail
      go_ret
      refine ⟨own', A', cap', rfl, hown, fun g hg => ?_, (((Chg.refl (fun _ => False) w).alloc _).trans hchg (fun _ _ hf => hf))⟩
      rcases hor with h0 | h0
      · rw [h0] at hg; simp at hg
      · rw [h0] at hg; simp at hg; omega

theorem take_snoc_eq {l r : List UInt8} {k : Nat} (h1 : k < l.length) (h2 : k < r.length) (h : l.take k = r.take k) (he : l[k] = r[k]) : l.take (k + 1) = r.take (k + 1) := by
  rw [List.take_succ_eq_append_getElem h1, List.take_succ_eq_append_getElem h2, h, he]
theorem ne_of_getElem {l r : List UInt8} {k : Nat} (h1 : k < l.length) (h2 : k < r.length) (he : l[k] ≠ r[k]) : (l == r) = false := by
  rw [beq_eq_false_iff_ne]
  rintro rfl
  exact he rfl
theorem eq_of_take {l r : List UInt8} {k : Nat} (h1 : l.length = k) (h2 : r.length = k) (h : l.take k = r.take k) : (l == r) = true := by
  rw [List.take_of_length_le (by omega), List.take_of_length_le (by omega)] at h
  rw [h]
  exact beq_self_eq_true _
theorem ret_bool {a b : Bool} (h : a = b) : Ending.returned (.bool a) = .returned (.bool b) := by rw [h]
theorem byte_ne {x y : UInt8} (h : x ≠ y) : (((x.toNat : Int)) != (y.toNat : Int)) = true := by
  rw [bne_iff_ne]
  intro e
  exact h (UInt8.toNat_inj.1 (by omega))

set_option maxHeartbeats 400000 in
theorem Same_calls {w : World} {S S' : Nat → Prop} {A A' : Option Addr} {n n' c c' : Nat} {l r : List UInt8} (h : Cs w S A n (bv l)) (h' : Cs w S' A' n' (bv r))
    (hm : n ≤ 9223372036854775807) (hm' : n' ≤ 9223372036854775807) :
    Calls Try.prog 60 #[.slice A n c, .slice A' n' c'] w fun e w' => e = .returned (.bool (l == r)) ∧ ∃ q, w' = w.drewN q := by
  have hl : l.length = n := by rw [← bv_length]; exact h.1
  have hr : r.length = n' := by rw [← bv_length]; exact h'.1
  by_cases hne : n = n'
  · subst hne
    have HL := Lib.hid hl
    have HR := Lib.hid hr
    clear hl hr
    have hb : ((n : Int) != (n : Int)) = false := by simp
    go_enter Try.func60, Try.ntmps60
    go_wp2_with fail
    go_loopw [5] (fun i wr => ∃ k q : Nat, k ≤ n ∧ i = .int .i64 k ∧ Hid (l.take k = r.take k) ∧ wr = w.drewN q) (fun i _ => n - (intOf i).toNat)
    case atStart => exact ⟨0, 0, Nat.zero_le _, rfl, Lib.hid (by simp), rfl⟩
    case round =>
      obtain ⟨k, q, hk, rfl, HT, rfl⟩ := hrel
      by_cases hlt : k < n
      · have k1 : k < l.length := by have := HL.out; omega
        have k2 : k < r.length := by have := HR.out; omega
        obtain ⟨b, off, rfl, _, hc⟩ := h.2 (by omega)
        obtain ⟨b', off', rfl, _, hc'⟩ := h'.2 (by omega)
        have c1 := hc k _ (bv_get k1)
        have c2 := hc' k _ (bv_get k2)
        have HC := Lib.hid hc
        have HC' := Lib.hid hc'
        clear hc hc'
        obtain ⟨x, hx⟩ : ∃ x, l[k] = x := ⟨_, rfl⟩
        obtain ⟨y, hy⟩ : ∃ y, r[k] = y := ⟨_, rfl⟩
        rw [hx] at c1
        rw [hy] at c2
        have HX := Lib.hid hx
        have HY := Lib.hid hy
        clear hx hy
        by_cases hxy : x = y
        · subst hxy
          have hbx : ((x.toNat : Int) != (x.toNat : Int)) = false := by simp
          go_wp2_with fail
          go_quiet (fail)
          go_wp2_with fail
          go_roundw
          case rel => exact ⟨k + 1, q + nq, by omega, by go_num, Lib.hid (take_snoc_eq k1 k2 HT.out (by rw [HX.out, HY.out])), by simp⟩
          case measure => simp [intOf]; omega
        · have hbx := byte_ne hxy
          have HXY := Lib.hid hxy
          clear hxy
          go_wp2_with fail
          go_quiet (fail)
          go_wp2_with fail
          go_ret
          exact ⟨ret_bool (ne_of_getElem k1 k2 (by rw [HX.out, HY.out]; exact HXY.out)).symm, q + nq, by simp⟩
      · have hkn : n ≤ k := by omega
        go_wp2_with fail
        go_ret
        exact ⟨ret_bool (eq_of_take (k := k) (by have := HL.out; omega) (by have := HR.out; omega) HT.out).symm, _, rfl⟩
  · have hb : ((n : Int) != (n' : Int)) = true := by rw [bne_iff_ne]; omega
    have hlr : (l == r) = false := by
      rw [beq_eq_false_iff_ne]
      rintro rfl
      omega
    have H := Lib.hid hlr
    clear hlr hl hr hne
    go_enter Try.func60, Try.ntmps60
    go_wp2_with fail
    go_ret
    exact ⟨ret_bool H.out.symm, 0, rfl⟩

theorem set_fill {l : List Value} {m z : Value} {k j : Nat} : (l ++ (List.replicate k m ++ List.replicate (j + 1) z)).set (l.length + k) m = l ++ (List.replicate (k + 1) m ++ List.replicate j z) := by
  rw [List.set_append_right _ _ (by omega), Nat.add_sub_cancel_left, List.set_append_right _ _ (by simp)]
  simp only [List.length_replicate, Nat.sub_self, List.replicate_succ, List.set_cons_zero]
  rw [← List.replicate_succ, List.replicate_succ', List.append_assoc]
  rfl
/-- what Roomy leaves: the bytes, and 80 marks behind them, in one new block -/
def Roomed (w : World) (n : Nat) (l : List UInt8) (m : UInt8) (e : Ending) (w' : World) : Prop :=
  ∃ g, e = .returned (.slice (some ⟨g, 0, none⟩) (n + 80) (n + 80)) ∧ Own w' 5 (some g) (some ⟨g, 0, none⟩) (n + 80) (n + 80) (bv (l ++ List.replicate 80 m)) ∧ w.heap.size ≤ g ∧ Chg (fun _ => False) w w'

theorem Roomy_calls {w : World} {S : Nat → Prop} {A : Option Addr} {n c : Nat} {l : List UInt8} (m : UInt8) (h : Cs w S A n (bv l)) (hn : n ≤ 100000000) :
    Calls Try.prog 30 #[.slice A n c, .int .u8 (m.toNat : Int)] w (Roomed w n l m) := by
  have hl : (bv l).length = n := h.1
  have HL := Lib.hid hl
  clear hl
  go_enter Try.func30, Try.ntmps30
  go_wp2_with (at_make; refine wpList_make rfl _ _ 22 rfl 5 (.int .u8 0) 1 Try.underlying22 (by kernel_rfl) rfl .i64 .i64 _ _ (n + 80) rfl rfl (by omega) (by omega) (by omega) (by omega) ?_)
  intro w1 hown1 hchg1 hsz1
  have h1 : Cs w1 S A n (bv l) := h.chg hchg1 (fun _ _ _ hf => hf)
  go_wp2_with (with_reducible refine wpList_copy rfl _ _ 22 22 rfl 5 1 bytesApp (some w.heap.size) _ (n + 80) (n + 80) _ (bv l) _ rfl rfl hown1 (Src.slice h1) (bv_one l) ?_ ?_)
  · have := HL.out; omega
  · intro w2 hown2 hchg2
    have hsh : List.replicate (n + 80 - (bv l).length) (Value.int .u8 0) = List.replicate (n - n) (Value.int .u8 (m.toNat : Int)) ++ List.replicate (n + 80 - n) (Value.int .u8 0) := by
      rw [HL.out, Nat.sub_self]
      simp
    rw [hsh] at hown2
    clear hsh
    go_wp2_with fail
    go_loopw [6] (fun i wr => ∃ j : Nat, n ≤ j ∧ j ≤ n + 80 ∧ i = .int .i64 j ∧ Own wr 5 (some w.heap.size) (some ⟨w.heap.size, 0, none⟩) (n + 80) (n + 80) (bv l ++ (List.replicate (j - n) (Value.int .u8 (m.toNat : Int)) ++ List.replicate (n + 80 - j) (Value.int .u8 0))) ∧ Chg (fun k => w.heap.size = k) w1 wr) (fun i _ => n + 80 - (intOf i).toNat)
    case atStart => exact ⟨n, Nat.le_refl _, by omega, rfl, hown2, hchg2⟩
    case round =>
      obtain ⟨j, hj1, hj2, rfl, hown, hchg⟩ := hrel
      by_cases hlt : j < n + 80
      · obtain ⟨jj, hjj⟩ : ∃ jj, n + 80 - j = jj + 1 := ⟨n + 80 - j - 1, by omega⟩
        have hget : (bv l ++ (List.replicate (j - n) (Value.int .u8 (m.toNat : Int)) ++ List.replicate (n + 80 - j) (Value.int .u8 0)))[j]? = some (Value.int .u8 0) := by
          have := HL.out
          rw [List.getElem?_append_right (by omega), List.getElem?_append_right (by simp; omega), List.getElem?_replicate, if_pos (by simp; omega)]
        obtain ⟨g, hg, _, hc, hf⟩ := hown.cells hget
        have hset := hown.set (g := g) hg j (Value.int .u8 (m.toNat : Int))
        obtain rfl : w.heap.size = g := by injection hg
        have e1 : (bv l ++ (List.replicate (j - n) (Value.int .u8 (m.toNat : Int)) ++ List.replicate (n + 80 - j) (Value.int .u8 0))).set j (Value.int .u8 (m.toNat : Int)) =
            bv l ++ (List.replicate (j + 1 - n) (Value.int .u8 (m.toNat : Int)) ++ List.replicate (n + 80 - (j + 1)) (Value.int .u8 0)) := by
          have h1 := HL.out
          have h2 := set_fill (l := bv l) (m := Value.int .u8 (m.toNat : Int)) (z := Value.int .u8 0) (k := j - n) (j := jj)
          rw [h1] at h2
          rw [hjj, show n + 80 - (j + 1) = jj by omega, show j + 1 - n = j - n + 1 by omega, ← h2]
          congr 1
          omega
        rw [e1] at hset
        have hchg' := hchg.setCell (p := ⟨w.heap.size, j, none⟩) (.inl rfl) (Value.int .u8 (m.toNat : Int))
        clear hown hget e1 hjj hg
        go_wp2_with fail
        go_roundw
        case rel => exact ⟨j + 1, by omega, by omega, by go_num, hset, hchg'⟩
        case measure => simp [intOf]; omega
      · have hjn : j = n + 80 := by omega
        have e2 : bv l ++ (List.replicate (j - n) (Value.int .u8 (m.toNat : Int)) ++ List.replicate (n + 80 - j) (Value.int .u8 0)) = bv (l ++ List.replicate 80 m) := by
          rw [hjn, Nat.sub_self, Nat.add_sub_cancel_left, bv_append]
          simp [bv]
        rw [e2] at hown
        clear e2
        have HJ := Lib.hid hjn
        clear hjn
        go_wp2_with fail
        go_ret
        exact ⟨w.heap.size, rfl, hown, Nat.le_refl _, hchg1.trans hchg (fun i hi hf => by have h2 : w.heap.size = i := hf; omega)⟩

set_option maxHeartbeats 400000 in
theorem Intact_calls {w : World} {S' T : Nat → Prop} {A' : Option Addr} {g n c c' : Nat} {l : List UInt8} (m : UInt8) (h : Cs w T (some ⟨g, 0, none⟩) (n + 80) (bv (l ++ List.replicate 80 m))) (h' : Cs w S' A' n (bv l))
    (hn : n ≤ 100000000) (hc : n + 80 ≤ c) :
    Calls Try.prog 39 #[.slice (some ⟨g, 0, none⟩) (n + 80) c, .slice A' n c', .int .u8 (m.toNat : Int)] w fun e w' => e = .returned (.bool true) ∧ ∃ q, w' = w.drewN q := by
  have hl : l.length = n := by rw [← bv_length]; exact h'.1
  have hb : ((((n + 80 : Nat) : Int)) != ((n : Int) + 80)) = false := by simp
  have ht : Cs w T (some ⟨g, 0, none⟩) n (bv l) := by
    have := h.take (k := n) (by omega)
    rw [← bv_take, List.take_left' hl] at this
    exact this
  have hll : (l == l) = true := beq_self_eq_true _
  have HL := Lib.hid hl
  clear hl
  go_enter Try.func39, Try.ntmps39
  go_wp2_with (go_at_call 60; refine (Same_calls ht h' (by omega) (by omega)).mono ?_; rintro e w' ⟨rfl, q, rfl⟩)
  go_loopw [7] (fun i wr => ∃ j q : Nat, n ≤ j ∧ j ≤ n + 80 ∧ i = .int .i64 j ∧ wr = w.drewN q) (fun i _ => n + 80 - (intOf i).toNat)
  case atStart => exact ⟨n, q, Nat.le_refl _, by omega, rfl, rfl⟩
  case round =>
    obtain ⟨j, q, hj1, hj2, rfl, rfl⟩ := hrel
    by_cases hlt : j < n + 80
    · have hget : (bv (l ++ List.replicate 80 m))[j]? = some (Value.int .u8 (m.toNat : Int)) := by
        have := HL.out
        rw [bv_append, List.getElem?_append_right (by rw [bv_length]; omega), bv_length, bv, List.map_replicate, List.getElem?_replicate, if_pos (by omega)]
      have hcell := h.cellAt rfl hget
      rw [Nat.zero_add] at hcell
      clear hget
      have hbx : ((m.toNat : Int) != (m.toNat : Int)) = false := by simp
      go_wp2_with fail
      go_roundw
      case rel => exact ⟨j + 1, q, by omega, by omega, by go_num, rfl⟩
      case measure => simp [intOf]; omega
    · go_wp2_with fail
      go_ret
      exact ⟨rfl, q, rfl⟩
end Go.Proofs.Ytiibkbkcncmjoaa
