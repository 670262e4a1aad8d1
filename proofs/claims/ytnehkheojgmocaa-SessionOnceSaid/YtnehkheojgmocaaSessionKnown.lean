/-
  Chapter 17's own runs (the helper 'known' of layer 17): the walk.
-/
import Derived.Test.YtnehkheojgmocaaSession
namespace Go.Proofs.Ytnehkheojgmocaa
open Go.RowKit
set_option linter.unusedVariables false
set_option linter.unusedSimpArgs false

set_option maxRecDepth 100000 in
set_option maxHeartbeats 1000000 in
theorem known17 (w : World) : Calls Try.prog 25 #[] w (Holds w) := by
  have hrep : ∀ y a z, rep y a z = .agg #[.int .i64 y, .int .i64 a, .string z] := fun _ _ _ => rfl
  go_enter Try.func25, Try.ntmps25
  go_wp2_with fail
  refine (Session_new _).mono ?_
  rintro e w1 ⟨rfl, hn, hc1⟩
  obtain ⟨T, hT⟩ : ∃ T, w.heap.size = T := ⟨_, rfl⟩
  rw [hT] at hn ⊢
  have HT := Lib.hid hT
  clear hT
  go_wp2_with fail
  refine (Done_new (k := 0) (y' := 0) (a' := 3) (z' := ⟨#[]⟩) (hn 0 (by omega)) (by omega) (by omega) (by omega)).mono ?_
  rintro e w2 ⟨rfl, hr2, -, hc2⟩
  clear hn
  go_wp2_with fail
  refine (Ask_again (k := 0) hr2 (by omega) (by omega) rfl).mono ?_
  rintro e w3 ⟨rfl, hc3⟩
  go_wp2_with fail
  refine (Ask_new (k := 0) ((hr2.chg hc3 (fun h => h)).chg ((Chg.refl (fun _ => False) w3).alloc _) (fun h => h)) (by omega) (by omega) (by omega)).mono ?_
  rintro e w4 ⟨rfl, hc4⟩
  have c0 : w4.cell? ⟨w3.heap.size, 0, none⟩ = some (.int .i64 0) := hc4.cell (by simp) (fun h => h)
  have c1 : w4.cell? ⟨w3.heap.size, 1, none⟩ = some (.int .i64 3) := hc4.cell (by simp) (fun h => h)
  have c2 : w4.cell? ⟨w3.heap.size, 2, none⟩ = some (.string ⟨#[]⟩) := hc4.cell (by simp) (fun h => h)
  have hsz : w3.heap.size < w4.heap.size := by have := hc4.size; simp at this; omega
  have hne : ¬ w3.heap.size = w4.heap.size := by omega
  have hne' : ¬ w4.heap.size = w3.heap.size := by omega
  have hr4 := ((hr2.chg hc3 (fun h => h)).chg ((Chg.refl (fun _ => False) w3).alloc (.cells #[.int .i64 0, .int .i64 3, .string ⟨#[]⟩] 38)) (fun h => h)).chg hc4 (fun h => h)
  go_wp2_with fail
  refine (Last_in (k := 0) (hr4.chg ((Chg.refl (fun _ => False) w4).alloc _) (fun h => h)) (by omega)).mono ?_
  rintro e w5 ⟨rfl, q, rfl⟩
  go_wp2_with fail
  go_ret
  refine ⟨rfl, ?_⟩
  have hc12 : Chg (fun i => w.heap.size ≤ i) w w2 := hc1.mono (fun _ _ h => h.elim) |>.trans hc2 (fun i _ h => by rw [h, HT.out]; exact Nat.le_refl _)
  have hc02 : Chg (fun _ => False) w w2 := hc12.mono (fun i hi h => by omega)
  exact ((((hc02.trans hc3 (fun _ _ h => h)).alloc _).trans hc4 (fun _ _ h => h)).alloc _).drewN _
end Go.Proofs.Ytnehkheojgmocaa
