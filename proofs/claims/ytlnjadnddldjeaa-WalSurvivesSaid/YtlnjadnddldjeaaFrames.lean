/-
  Contract of package frames' Frame.
-/
import Derived.Test.YtlnjadnddldjeaaFrameMath
import Derived.Test.YtlnjadnddldjeaaRead4
import Derived.Test.YtlnjadnddldjeaaSum4
namespace Go.Proofs.Ytlnjadnddldjeaa
open Go.RowKit
set_option linter.unusedVariables false
set_option linter.unusedSimpArgs false

theorem Chg.new {V : Nat → Prop} {w w' : World} (h : Chg V w w') (hn : ∀ k, k < w.heap.size → ¬ V k) : Chg (fun _ => False) w w' := h.mono fun i hi hv => hn i hi hv
theorem Chg.wide {T : Nat → Prop} {w w' : World} (h : Chg (fun _ => False) w w') : Chg T w w' := h.mono fun _ _ h => h.elim
set_option maxRecDepth 100000 in
theorem Frame_calls {w : World} {S : Nat → Prop} {A : Option Addr} {n c : Nat} {l : List UInt8} (h : Cs w S A n (bv l)) (hm : n ≤ 90000000) :
    Calls Try.prog 47 #[.slice A n c] w (Cloned w (n + 12) (fframe l)) := by
  have hl : l.length = n := by rw [← bv_length]; exact h.1
  have HL := Lib.hid hl
  clear hl
  obtain ⟨m, hm4⟩ : ∃ m, n + 4 = m := ⟨_, rfl⟩
  have HM := Lib.hid hm4
  have HSeal := fun (wx : World) (hx : Cs wx S A n (bv l)) => Seal_calls (c := c) hx (show n ≤ 100000000 by omega)
  rw [hm4] at HSeal
  have HSeal := Lib.hid HSeal
  have hmm : m ≤ 90000004 := by omega
  clear hm4
  obtain ⟨D, hD⟩ : ∃ D, w.heap.size = D := ⟨_, rfl⟩
  have HD := Lib.hid hD
  have HNew := NewWriter_calls (fun k => D ≤ k) w (by omega)
  rw [hD] at HNew
  have HNew := Lib.hid HNew
  clear hD
  go_enter Try.func47, Try.ntmps47
  go_wp2_with fail
  refine HNew.out.mono ?_
  rintro e w1 ⟨rfl, hd1, hc1⟩
  have hcs1 := h.chg hc1 (fun _ _ _ h => h)
  have z1 := hc1.size
  go_wp2_with fail
  refine (HSeal.out w1 hcs1).mono ?_
  rintro e w2 ⟨own, AS, cS, rfl, hS, hSn, hc2⟩
  have z2 := hc2.size
  have hd2 : WrAt (fun k => D ≤ k ∧ ¬ (w1.heap.size ≤ k ∧ k < w2.heap.size)) w2 D [] := (hd1.mono (fun k h1 h2 => ⟨h2, by omega⟩)).keep hc2
  have hLong := WLong_calls hd2 (fun k hk => ⟨by have := HD.out; omega, by omega⟩) (m : Int) (by simp)
  rw [show u64 (m : Int) = m by unfold u64; omega, List.nil_append] at hLong
  have HLong := Lib.hid hLong
  clear hLong hd2 hd1
  go_wp2_with fail
  refine HLong.out.mono ?_
  rintro e w3 ⟨rfl, hd3, hc3⟩
  have z3 := hc3.size
  have hS3 := hS.chg hc3 (fun k hk h => h.2 ⟨hSn k hk, hS.lt hk⟩)
  have hDone := Done_calls hd3 (by rw [le_length]; omega)
  rw [le_length] at hDone
  have HDone := Lib.hid hDone
  clear hDone hd3 HLong
  go_wp2_with fail
  refine HDone.out.mono ?_
  rintro e w4 ⟨own4, A4, c4, rfl, hO, hOn, hc4⟩
  have z4 := hc4.size
  have hS4 := hS3.chg hc4 (fun _ _ h => h)
  go_wp2_with (at_builtin; refine wpList_append rfl _ _ 31 31 rfl 5 1 bytesApp _ _ 8 c4 _ (bv (sealed l)) _ rfl rfl hO (Src.slice hS4.cs) (bv_one _) (n + 12) ?_ (by omega) (by omega) ?_)
  · rw [bv_length, sealed_length, HL.out]; omega
  · intro own' A' cap' w' hown' hor hchg
    go_wp2_with fail
    go_ret
    have a : Chg (fun k => D ≤ k) w w' := (((hc1.wide.trans hc2 (fun _ _ h => h.elim)).trans hc3 (fun _ _ h => h.1)).trans hc4 (fun _ _ h => h.elim)).trans hchg (fun i _ h => by have := hOn i h; have := HD.out; omega)
    refine ⟨own', A', cap', rfl, ?_, fun g hg => ?_, a.new fun k hk h => by have := HD.out; omega⟩
    · rw [fframe, bv_append, HL.out, HM.out]; exact hown'
    · rcases hor with h0 | h0
      · have := hOn g (by rw [← h0, hg]); omega
      · rw [h0] at hg; injection hg with hg; omega
end Go.Proofs.Ytlnjadnddldjeaa
