/-
  WireNumbers: chapter 1's runs: the walk through the closed law.
-/
import Derived.Test.YtiibkbkcncmjoaaWireKnown
namespace Go.Proofs.Ytiibkbkcncmjoaa
open Go.RowKit
set_option linter.unusedVariables false
set_option linter.unusedSimpArgs false

set_option maxRecDepth 100000 in
set_option maxHeartbeats 4000000 in
theorem wnumbers_walk (w : World) : Calls Try.prog 9 #[] w (Holds1 w) := by
  have e1 : ([] : List UInt8) ++ le 1 (u64 (-1)) = [255] := by decide
  have e2 : ([255] : List UInt8) ++ le 8 (u64 (-2)) = [255, 254, 255, 255, 255, 255, 255, 255, 255] := by decide
  have e3 : ([255, 254, 255, 255, 255, 255, 255, 255, 255] : List UInt8) ++ le 2 (u64 (-1)) = [255, 254, 255, 255, 255, 255, 255, 255, 255, 255, 255] := by decide
  have E1 := Lib.hid e1
  have E2 := Lib.hid e2
  have E3 := Lib.hid e3
  clear e1 e2 e3
  go_enter Try.func9, Try.ntmps9
  go_wp2_with fail
  refine (NewWriter_calls (fun k => w.heap.size ≤ k) w (Nat.le_refl _)).mono ?_
  rintro e w1 ⟨rfl, hd1, hc1⟩
  obtain ⟨D, hD⟩ : ∃ D, w.heap.size = D := ⟨_, rfl⟩
  have hz1 := hc1.size
  rw [hD] at hd1 hz1 ⊢
  have a1 : Chg (fun k => D ≤ k) w w1 := hc1.wide
  go_wp2_with (at_make; refine wpList_make rfl _ _ 22 rfl 5 (.int .u8 0) 1 Try.underlying22 (by kernel_rfl) rfl .i64 .i64 _ _ 7 rfl rfl (by decide) (by decide) (by decide) (by decide) ?_)
  intro w2 hown2 hchg2 hsz2
  have hcs2 : Cs w2 (fun k => k = w1.heap.size) (some ⟨w1.heap.size, 0, none⟩) 7 (bv [0, 0, 0, 0, 0, 0, 0]) := (hown2.cs.mono (fun k _ h => by injection h with h; exact h.symm))
  clear hown2
  go_wp2_with fail
  refine (NewReader_calls (fun k => w2.heap.size ≤ k) hcs2 (by decide) (fun k hk => hk)).mono ?_
  rintro e w3 ⟨R1, rfl, hR1, r1, hc3⟩
  have hz3 := hc3.size
  have r1 := r1.mono (V' := fun k => w2.heap.size ≤ k ∧ k < w3.heap.size) fun k hk hv => ⟨hv, hk⟩
  have hd3 := (hd1.mono (V' := fun k => D ≤ k ∧ k < w1.heap.size) (fun k hk hv => ⟨hv, hk⟩)).keep (hchg2.trans hc3 (fun _ _ h => h))
  have a3 := a1.trans (hchg2.trans hc3 (fun _ _ h => h)) (fun _ _ h => h.elim)
  clear hd1 hcs2
  go_wp2_with fail
  refine (NewReader_calls (fun k => w3.heap.size ≤ k) (Cs.lit w3 [255, 7] _ rfl 2 rfl) (by decide) (fun k hk => by simp at hk; omega)).mono ?_
  rintro e w4 ⟨R2, rfl, hR2, r2, hc4⟩
  have hc4' := ((Chg.refl (fun _ => False) w3).alloc _).trans hc4 (fun _ _ h => h)
  have hz4 := hc4'.size
  have r2 := r2.mono (V' := fun k => w3.heap.size ≤ k ∧ k < w4.heap.size) fun k hk hv => ⟨hv, hk⟩
  have r1 := r1.keep hc4'
  have hd4 := hd3.keep hc4'
  have a4 := a3.trans hc4' (fun _ _ h => h.elim)
  clear hd3
  go_wp2_with fail
  refine (NewReader_calls (fun k => w4.heap.size ≤ k) (Cs.lit w4 [9, 0, 120] _ rfl 3 rfl) (by decide) (fun k hk => by simp at hk; omega)).mono ?_
  rintro e w5 ⟨R3, rfl, hR3, r3, hc5⟩
  have hc5' := ((Chg.refl (fun _ => False) w4).alloc _).trans hc5 (fun _ _ h => h)
  have hz5 := hc5'.size
  have r3 := r3.mono (V' := fun k => w4.heap.size ≤ k ∧ k < w5.heap.size) fun k hk hv => ⟨hv, hk⟩
  have r1 := r1.keep hc5'
  have r2 := r2.keep hc5'
  have hd5 := (hd4.keep hc5').mono (V' := fun k => D ≤ k ∧ (k < w1.heap.size ∨ w5.heap.size ≤ k)) (fun k hk hv => ⟨hv.1, .inl hv.2⟩)
  have a5 := a4.trans hc5' (fun _ _ h => h.elim)
  clear hd4
  go_wp2_with fail
  refine (WByte_calls hd5 (fun k hk => ⟨by omega, .inr hk⟩) (-1) (by decide)).mono ?_
  rintro e w6 ⟨rfl, hd6, hc6⟩
  rw [E1.out] at hd6
  have hz6 := hc6.size
  have r1 := r1.chg hc6 (fun k hk h1 h2 => by omega)
  have r2 := r2.chg hc6 (fun k hk h1 h2 => by omega)
  have r3 := r3.chg hc6 (fun k hk h1 h2 => by omega)
  have a6 := a5.trans hc6 (fun _ _ h => h.1)
  clear hd5
  go_wp2_with fail
  refine (WLong_calls hd6 (fun k hk => ⟨by omega, .inr (by omega)⟩) (-2) (by decide)).mono ?_
  rintro e w7 ⟨rfl, hd7, hc7⟩
  rw [E2.out] at hd7
  have hz7 := hc7.size
  have r1 := r1.chg hc7 (fun k hk h1 h2 => by omega)
  have r2 := r2.chg hc7 (fun k hk h1 h2 => by omega)
  have r3 := r3.chg hc7 (fun k hk h1 h2 => by omega)
  have a7 := a6.trans hc7 (fun _ _ h => h.1)
  clear hd6
  go_wp2_with fail
  refine (WShort_calls hd7 (fun k hk => ⟨by omega, .inr (by omega)⟩) (-1) (by decide)).mono ?_
  rintro e w8 ⟨rfl, hd8, hc8⟩
  rw [E3.out] at hd8
  have hz8 := hc8.size
  have r1 := r1.chg hc8 (fun k hk h1 h2 => by omega)
  have r2 := r2.chg hc8 (fun k hk h1 h2 => by omega)
  have r3 := r3.chg hc8 (fun k hk h1 h2 => by omega)
  have a8 := a7.trans hc8 (fun _ _ h => h.1)
  clear hd7
  have HR1 := r1.inV
  have HR2 := r2.inV
  have HR3 := r3.inV
  go_wp2_with fail
  refine (RLong_calls r1).mono ?_
  rintro e w9 ⟨rfl, r1', hc9⟩
  clear r1
  rw [show rtake [0, 0, 0, 0, 0, 0, 0] 8 ⟨0, 0, 0⟩ = ([], ⟨0, 10, 7⟩) from rfl] at r1' ⊢
  rw [show s64 (num (([] : List UInt8), (⟨0, 10, 7⟩ : RS)).1) = 0 from rfl]
  have r2 := r2.chg hc9 (fun k hk h1 h2 => by omega)
  have r3 := r3.chg hc9 (fun k hk h1 h2 => by omega)
  have hd9 := hd8.chg hc9 (fun k hk h1 h2 => by omega)
  have a9 := a8.trans hc9 (fun _ _ h => by omega)
  have hz9 := hc9.size
  clear hd8
  go_wp2_with fail
  refine (End_calls r1').mono ?_
  rintro e w10 ⟨rfl, q1, rfl⟩
  rw [show rwhy [0, 0, 0, 0, 0, 0, 0] (([] : List UInt8), (⟨0, 10, 7⟩ : RS)).2 = 10 from rfl, show rwhere [0, 0, 0, 0, 0, 0, 0] (([] : List UInt8), (⟨0, 10, 7⟩ : RS)).2 = 7 from rfl]
  clear r1'
  have r2 := r2.keep ((Chg.refl _ w9).drewN q1)
  go_wp2_with fail
  refine (RByte_calls r2).mono ?_
  rintro e w11 ⟨rfl, r2', hc11⟩
  clear r2
  rw [show rtake [255, 7] 1 ⟨0, 0, 0⟩ = ([255], ⟨1, 0, 0⟩) from rfl] at r2' ⊢
  rw [show num (([255] : List UInt8), (⟨1, 0, 0⟩ : RS)).1 = 255 from rfl]
  have hc11' := ((Chg.refl (fun k => k = R2) w9).drewN q1).trans hc11 (fun _ _ h => h)
  have r3 := r3.chg hc11' (fun k hk h1 h2 => by omega)
  have hd11 := hd9.chg hc11' (fun k hk h1 h2 => by omega)
  have a11 := a9.trans hc11' (fun _ _ h => by omega)
  have hz11 := hc11'.size
  clear hd9
  go_wp2_with fail
  refine (End_calls r2').mono ?_
  rintro e w12 ⟨rfl, q2, rfl⟩
  rw [show rwhy [255, 7] (([255] : List UInt8), (⟨1, 0, 0⟩ : RS)).2 = 11 from rfl, show rwhere [255, 7] (([255] : List UInt8), (⟨1, 0, 0⟩ : RS)).2 = 1 from rfl]
  clear r2'
  have r3 := r3.keep ((Chg.refl _ w11).drewN q2)
  go_wp2_with fail
  refine (RText_calls r3 9).mono ?_
  rintro e w13 ⟨rfl, r3', hc13⟩
  clear r3
  rw [show rtext [9, 0, 120] 9 ⟨0, 0, 0⟩ = ([], ⟨2, 10, 3⟩) from rfl] at r3' ⊢
  have hc13' := ((Chg.refl (fun k => k = R3) w11).drewN q2).trans hc13 (fun _ _ h => h)
  have hd13 := hd11.chg hc13' (fun k hk h1 h2 => by omega)
  have a13 := a11.trans hc13' (fun _ _ h => by omega)
  have hz13 := hc13'.size
  clear hd11
  go_wp2_with fail
  refine (End_calls r3').mono ?_
  rintro e w14 ⟨rfl, q3, rfl⟩
  rw [show rwhy [9, 0, 120] (([] : List UInt8), (⟨2, 10, 3⟩ : RS)).2 = 10 from rfl, show rwhere [9, 0, 120] (([] : List UInt8), (⟨2, 10, 3⟩ : RS)).2 = 3 from rfl]
  clear r3'
  have hd14 := hd13.keep ((Chg.refl _ w13).drewN q3)
  have a14 := a13.drewN q3
  generalize w13.drewN q3 = w14 at hd14 a14 ⊢
  clear hd13 a1 a3 a4 a5 a6 a7 a8 a9 a11 a13
  go_wp2_with fail
  refine (NewReader_calls (fun k => w14.heap.size ≤ k) (Cs.lit w14 [1, 0, 120, 1, 0, 121] _ rfl 6 rfl) (by decide) (fun k hk => by simp at hk; omega)).mono ?_
  rintro e w15 ⟨R4, rfl, hR4, r4, hc15⟩
  have hc15' := ((Chg.refl (fun _ => False) w14).alloc _).trans hc15 (fun _ _ h => h)
  have r4 := r4.mono (V' := fun k => w14.heap.size ≤ k ∧ k < w15.heap.size) fun k hk hv => ⟨hv, hk⟩
  have hd15 := (hd14.mono (V' := fun k => D ≤ k ∧ k < w14.heap.size) (fun k hk hv => ⟨hv.1, hk⟩)).keep hc15'
  have a15 := a14.trans hc15' (fun _ _ h => h.elim)
  have hz15 := hc15'.size
  have HR4 := r4.inV
  have hz14 := a14.size
  clear hd14 a14
  go_wp2_with fail
  refine (Fail_calls r4 0).mono ?_
  rintro e w16 ⟨rfl, r4', hc16⟩
  rw [show rfail 0 ⟨0, 0, 0⟩ = ⟨0, 0, 0⟩ from rfl] at r4'
  have hd16 := hd15.chg hc16 (fun k hk h1 h2 => by omega)
  have a16 := a15.trans hc16 (fun _ _ h => by omega)
  clear hd15 a15 r4
  go_wp2_with fail
  refine (RText_calls r4' 1).mono ?_
  rintro e w17 ⟨rfl, r4, hc17⟩
  rw [show rtext [1, 0, 120, 1, 0, 121] 1 ⟨0, 0, 0⟩ = ([120], ⟨3, 0, 0⟩) from rfl] at r4 ⊢
  have hs1 : (str [120]).toList = [120] := str_toList _
  have hs0 : (str []).toList = [] := str_toList _
  have hd17 := hd16.chg hc17 (fun k hk h1 h2 => by omega)
  have a17 := a16.trans hc17 (fun _ _ h => by omega)
  clear hd16 a16 r4'
  go_wp2_with fail
  refine (RText_calls r4 (-5)).mono ?_
  rintro e w18 ⟨rfl, r4', hc18⟩
  rw [show rtext [1, 0, 120, 1, 0, 121] (-5) (([120] : List UInt8), (⟨3, 0, 0⟩ : RS)).2 = ([], ⟨5, 3, 3⟩) from rfl] at r4' ⊢
  have hd18 := hd17.chg hc18 (fun k hk h1 h2 => by omega)
  have a18 := a17.trans hc18 (fun _ _ h => by omega)
  clear hd17 a17 r4
  go_wp2_with fail
  refine (Left_calls r4').mono ?_
  rintro e w19 ⟨rfl, q4, rfl⟩
  rw [show rleft [1, 0, 120, 1, 0, 121] (([] : List UInt8), (⟨5, 3, 3⟩ : RS)).2 = 0 from rfl]
  have r4 := r4'.keep ((Chg.refl _ w18).drewN q4)
  clear r4'
  go_wp2_with fail
  refine (Fail_calls r4 24).mono ?_
  rintro e w20 ⟨rfl, r4', hc20⟩
  rw [show rfail 24 (([] : List UInt8), (⟨5, 3, 3⟩ : RS)).2 = ⟨5, 3, 3⟩ from rfl] at r4'
  have hc20' := ((Chg.refl (fun k => k = R4) w18).drewN q4).trans hc20 (fun _ _ h => h)
  have hd20 := hd18.chg hc20' (fun k hk h1 h2 => by omega)
  have a20 := a18.trans hc20' (fun _ _ h => by omega)
  clear hd18 a18 r4
  go_wp2_with fail
  refine (End_calls r4').mono ?_
  rintro e w21 ⟨rfl, q5, rfl⟩
  rw [show rwhy [1, 0, 120, 1, 0, 121] ⟨5, 3, 3⟩ = 3 from rfl, show rwhere [1, 0, 120, 1, 0, 121] ⟨5, 3, 3⟩ = 3 from rfl]
  have hd21 := hd20.keep ((Chg.refl _ w20).drewN q5)
  have a21 := a20.drewN q5
  generalize w20.drewN q5 = w21 at hd21 a21 ⊢
  clear hd20 a20 r4'
  go_wp2_with fail
  refine (NewWriter_calls (fun k => w21.heap.size ≤ k) w21 (Nat.le_refl _)).mono ?_
  rintro e w22 ⟨rfl, hn22, hc22⟩
  have hd22 := hd21.keep hc22
  have a22 := a21.trans hc22 (fun _ _ h => h.elim)
  clear hd21 a21
  go_wp2_with fail
  refine (Done_calls hn22 (by decide)).mono ?_
  rintro e w23 ⟨own23, A23, cap23, rfl, hown23, hnew23, hc23⟩
  have hd23 := hd22.keep hc23
  have a23 := a22.trans hc23 (fun _ _ h => h.elim)
  clear hd22 a22 hn22 hown23 hnew23
  go_wp2_with fail
  refine (Done_calls hd23 (by decide)).mono ?_
  rintro e w24 ⟨own, A, cap, rfl, hown, hnew, hc24⟩
  have hst : (convert 22 9 (.slice A 11 cap)).run Try.prog w24 = .ok (.string (str [255, 254, 255, 255, 255, 255, 255, 255, 255, 255, 255])) w24 :=
    run_string (P := Try.prog) Try.underlying22 Try.underlying5 Try.underlying9 hown.cs
  have hss : (str [255, 254, 255, 255, 255, 255, 255, 255, 255, 255, 255]).toList = [255, 254, 255, 255, 255, 255, 255, 255, 255, 255, 255] := str_toList _
  have a24 := a23.trans hc24 (fun _ _ h => h.elim)
  clear hown hnew a23 hd23
  go_wp2_with fail
  refine (known1 _).mono ?_
  rintro e w25 ⟨rfl, hc25⟩
  go_wp2_with fail
  go_ret
  exact ⟨rfl, (a24.trans hc25 (fun _ _ h => h.elim)).new fun k hk h => by omega⟩
end Go.Proofs.Ytiibkbkcncmjoaa
