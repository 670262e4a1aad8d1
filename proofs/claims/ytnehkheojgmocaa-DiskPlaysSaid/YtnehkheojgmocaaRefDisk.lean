/-
  Contracts of the document's disk (confluenceref20): Append, Sync, Swap, Crash.
-/
import Derived.Test.YtnehkheojgmocaaDisk
import Derived.Deep.DeepCutAuto
namespace Go.Proofs.Ytnehkheojgmocaa
open Go.RowKit
set_option linter.unusedVariables false
set_option linter.unusedSimpArgs false

/-- In w the document's disk lies at block D: its bytes, in an array of its own, and how many are safe. -/
def RefAt (w : World) (D : Nat) (own : Option Nat) (bs : List UInt8) (safe : Nat) : Prop :=
  safe ≤ bs.length ∧ bs.length ≤ 4194304 ∧ ∃ A cap, w.heap[D]? = some (.cells #[.slice A bs.length cap, .int .i64 (safe : Int)] 47 (0, 0)) ∧ Own w 5 own A bs.length cap (bv bs)

theorem RefAt.chg {w w' : World} {T : Nat → Prop} {D : Nat} {own : Option Nat} {bs : List UInt8} {safe : Nat} (h : RefAt w D own bs safe) (hc : Chg T w w') (hD : ¬ T D) (hd : ∀ k, own = some k → ¬ T k) : RefAt w' D own bs safe := by
  obtain ⟨h1, h2, A, cap, hh, ho⟩ := h
  exact ⟨h1, h2, A, cap, hc.heap hh hD, ho.chg hc hd⟩
theorem RefAt.lt {w : World} {D : Nat} {own : Option Nat} {bs : List UInt8} {safe : Nat} (h : RefAt w D own bs safe) : D < w.heap.size := by
  obtain ⟨_, _, A, cap, hh, _⟩ := h
  exact lt_of_block hh
theorem RefAt.ownLt {w : World} {D : Nat} {own : Option Nat} {bs : List UInt8} {safe : Nat} (h : RefAt w D own bs safe) : ∀ g, own = some g → g < w.heap.size := by
  obtain ⟨_, _, A, cap, hh, ho⟩ := h
  exact fun g hg => ho.lt hg

/-- behind a call that made its bytes anew -/
def RefMade (w : World) (D : Nat) (bs : List UInt8) (safe : Nat) (r : Value) (e : Ending) (w' : World) : Prop :=
  ∃ own', e = .returned r ∧ RefAt w' D own' bs safe ∧ (∀ g, own' = some g → w.heap.size ≤ g) ∧ Chg (fun k => k = D) w w'

theorem RefAppend_ok {w : World} {D : Nat} {own : Option Nat} {bs x : List UInt8} {safe : Nat} {S : Nat → Prop} {X : Option Addr} {n c : Nat} (hd : RefAt w D own bs safe) (hx : Cs w S X n (bv x)) (hroom : bs.length + n ≤ 4194304) :
    Calls Try.prog 28 #[.pointer (some ⟨D, 0, none⟩), .slice X n c] w (RefMade w D (bs ++ x) safe (.int .i64 0)) := by
  obtain ⟨h1, h2, A, cap, hh, ho⟩ := hd
  have hlen : x.length = n := by rw [← bv_length]; exact hx.1
  have HL := Lib.hid hlen
  clear hlen
  obtain ⟨c0, c1, f0, f1⟩ := two_cells hh
  have hal : Chg (fun _ => False) w (w.alloc (.cells #[] 5)) := (Chg.refl (fun _ => False) w).alloc _
  obtain ⟨a0, a1, -, -⟩ := two_cells (hal.heap hh (fun h => h))
  have hoc : Cs (w.alloc (.cells #[] 5)) (fun k => own = some k) A bs.length (bv bs) := ho.cs.chg hal (fun _ _ _ hf => hf)
  go_enter Try.func28, Try.ntmps28
  go_wp2_with (at_builtin; refine wpList_append rfl _ _ 26 26 rfl 5 1 bytesApp none _ 0 0 [] (bv bs) _ rfl rfl (Own.nil_ _ _ _) (Src.slice hoc) (bv_one bs) bs.length ?_ (by omega) (by omega) ?_)
  · rw [bv_length]; omega
  · intro o1 A1 cap1 w1 hown1 hor1 hc1
    have hc01 : Chg (fun _ => False) w w1 := hal.trans hc1 (fun i hi hf => by cases hf)
    have hn1 : ∀ g, o1 = some g → w.heap.size ≤ g := fun g hg => by
      rcases hor1 with h0 | h0
      · rw [h0] at hg; cases hg
      · rw [h0] at hg; simp at hg; omega
    have hx1 := hx.chg hc01 (fun _ _ _ hf => hf)
    go_wp2_with (at_builtin; refine wpList_append rfl _ _ 26 26 rfl 5 1 bytesApp o1 A1 bs.length cap1 (bv bs) (bv x) _ rfl rfl hown1 (Src.slice hx1) (bv_one x) (bs.length + n) ?_ (by omega) (by omega) ?_)
    · rw [bv_length, HL.out]
    · intro own' A' cap' w' hown hor hchg
      have hc02 : Chg (fun _ => False) w w' := hc01.trans hchg (fun i hi h => by have := hn1 i h; omega)
      have hn2 : ∀ g, own' = some g → w.heap.size ≤ g := fun g hg => by
        rcases hor with h0 | h0
        · rw [h0] at hg; exact hn1 g hg
        · rw [h0] at hg; injection hg with hg; have := hc01.size; omega
      have hh' := hc02.heap hh (fun h => h)
      obtain ⟨c0', c1', f0', f1'⟩ := two_cells hh'
      have hne' : own' ≠ some D := hown.ne_ hh' (by decide)
      have hs := two_set0 hh' (.slice A' (bs.length + n) cap')
      have hown2 := hown.setOther (p := ⟨D, 0, none⟩) hne' (.slice A' (bs.length + n) cap')
      clear c0 c1 f0 f1 a0 a1 hh ho hown
      go_wp2_with fail
      go_ret
      refine ⟨own', rfl, ⟨by simp; omega, by rw [List.length_append, HL.out]; omega, A', cap', ?_, ?_⟩, hn2, ?_⟩
      · rw [List.length_append, HL.out]; exact hs
      · rw [List.length_append, HL.out, bv_append]; exact hown2
      · exact (hc02.mono (T' := fun k => k = D) (fun i _ h => h.elim)).setCell (.inl rfl) _

theorem RefSync_calls {w : World} {D : Nat} {own : Option Nat} {bs : List UInt8} {safe : Nat} (hd : RefAt w D own bs safe) :
    Calls Try.prog 29 #[.pointer (some ⟨D, 0, none⟩)] w fun e w' => e = .returned (.tuple #[]) ∧ RefAt w' D own bs bs.length ∧ Chg (fun k => k = D) w w' := by
  obtain ⟨h1, h2, A, cap, hh, ho⟩ := hd
  obtain ⟨c0, c1, f0, f1⟩ := two_cells hh
  have hne : own ≠ some D := ho.ne_ hh (by decide)
  have hs := two_set1 hh (.int .i64 (bs.length : Int))
  go_enter Try.func29, Try.ntmps29
  go_wp2_with fail
  go_end0
  exact ⟨rfl, ⟨Nat.le_refl _, h2, A, cap, hs, ho.setOther hne _⟩, Chg.one w ⟨D, 1, none⟩ _⟩

theorem RefAppend_full {w : World} {D : Nat} {own : Option Nat} {bs : List UInt8} {safe : Nat} {X : Option Addr} {n c : Nat} (hd : RefAt w D own bs safe) (hroom : 4194304 < bs.length + n) :
    Calls Try.prog 28 #[.pointer (some ⟨D, 0, none⟩), .slice X n c] w fun e w' => e = .returned (.int .i64 13) ∧ w' = w := by
  obtain ⟨h1, h2, A, cap, hh, ho⟩ := hd
  obtain ⟨c0, c1, f0, f1⟩ := two_cells hh
  go_enter Try.func28, Try.ntmps28
  go_wp2_with fail
  go_ret
  exact ⟨rfl, rfl⟩

theorem RefSwap_ok {w : World} {D : Nat} {own : Option Nat} {bs x : List UInt8} {safe : Nat} {S : Nat → Prop} {X : Option Addr} {n c : Nat} (hd : RefAt w D own bs safe) (hx : Cs w S X n (bv x)) (hroom : n ≤ 4194304) :
    Calls Try.prog 30 #[.pointer (some ⟨D, 0, none⟩), .slice X n c] w (RefMade w D x x.length (.int .i64 0)) := by
  obtain ⟨h1, h2, A, cap, hh, ho⟩ := hd
  have hlen : x.length = n := by rw [← bv_length]; exact hx.1
  have HL := Lib.hid hlen
  clear hlen
  obtain ⟨c0, c1, f0, f1⟩ := two_cells hh
  have hal : Chg (fun _ => False) w (w.alloc (.cells #[] 5)) := (Chg.refl (fun _ => False) w).alloc _
  have hoc : Cs (w.alloc (.cells #[] 5)) S X n (bv x) := hx.chg hal (fun _ _ _ hf => hf)
  go_enter Try.func30, Try.ntmps30
  go_wp2_with (at_builtin; refine wpList_append rfl _ _ 26 26 rfl 5 1 bytesApp none _ 0 0 [] (bv x) _ rfl rfl (Own.nil_ _ _ _) (Src.slice hoc) (bv_one x) n ?_ (by omega) (by omega) ?_)
  · rw [bv_length, HL.out]; omega
  · intro o1 A1 cap1 w1 hown1 hor1 hc1
    have hc01 : Chg (fun _ => False) w w1 := hal.trans hc1 (fun i hi hf => by cases hf)
    have hn1 : ∀ g, o1 = some g → w.heap.size ≤ g := fun g hg => by
      rcases hor1 with h0 | h0
      · rw [h0] at hg; cases hg
      · rw [h0] at hg; simp at hg; omega
    have hh' := hc01.heap hh (fun h => h)
    obtain ⟨c0', c1', f0', f1'⟩ := two_cells hh'
    have hne' : o1 ≠ some D := hown1.ne_ hh' (by decide)
    have hs := two_set1 (two_set0 hh' (.slice A1 n cap1)) (.int .i64 (n : Int))
    clear c0 c1 f0 f1 hh ho
    go_wp2_with fail
    go_ret
    refine ⟨o1, rfl, ⟨Nat.le_refl _, by rw [HL.out]; omega, A1, cap1, ?_, ?_⟩, hn1, ?_⟩
    · rw [HL.out]; exact hs
    · rw [HL.out]; exact (hown1.setOther hne' _).setOther hne' _
    · exact (Chg.setIn (Chg.mono (T' := fun k => k = D) hc01 (fun i _ h => h.elim)) rfl _ _).setIn rfl _ _
theorem RefSwap_full {w : World} {D : Nat} {X : Option Addr} {n c : Nat} (hroom : 4194304 < n) :
    Calls Try.prog 30 #[.pointer (some ⟨D, 0, none⟩), .slice X n c] w fun e w' => e = .returned (.int .i64 13) ∧ w' = w := by
  go_enter Try.func30, Try.ntmps30
  go_wp2_with fail
  go_ret
  exact ⟨rfl, rfl⟩
end Go.Proofs.Ytnehkheojgmocaa
