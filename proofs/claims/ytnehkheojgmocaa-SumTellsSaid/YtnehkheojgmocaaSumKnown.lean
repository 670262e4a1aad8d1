/-
  Chapter 2's own runs (the helper 'known' of layer 2) and the closed sentence SumNumbers: the walks.
-/
import Derived.Test.YtnehkheojgmocaaSum
import Derived.Test.YtnehkheojgmocaaDiskRounds
import Derived.Test.YtnehkheojgmocaaDiskNumbers
namespace Go.Proofs.Ytnehkheojgmocaa
open Go.RowKit
set_option linter.unusedVariables false

theorem crc_check : crc [49, 50, 51, 52, 53, 54, 55, 56, 57] = 3421780262 := by decide +kernel
theorem crc_nil : crc [] = 0 := by decide +kernel
theorem opens_short : opens [1, 2, 3] = false := by decide +kernel
theorem opens_wrong : opens [0, 0, 0, 1] = false := by decide +kernel
theorem opens_zero : opens [0, 0, 0, 0] = true := by decide +kernel
theorem sealed_nil : sealed [] = [0, 0, 0, 0] := by decide +kernel

set_option maxRecDepth 100000 in
set_option maxHeartbeats 2000000 in
theorem known2 (w : World) : Calls Try.prog 36 #[] w (Holds w) := by
  have kc := fun (w : World) (C : Array Value) (n c : Nat) => Lib.run_convert_bytes_const (P := Try.prog) w 26 5 C n c Try.underlying26 Try.underlying5
  have hss : (str [97, 98]).toList = [97, 98] := str_toList _
  go_enter Try.func36, Try.ntmps36
  go_wp2_with fail
  refine (Seal_calls (Cs.new w [97, 98] _ (2, 3)) (by decide)).mono ?_
  rintro e w1 ⟨oS, AS, cS, rfl, hS, hSn, hc1⟩
  have hcf := hS.fits
  have hcm := hS.capMax
  go_wp2_with fail
  refine (Open_calls hS.cs (by decide) hcf hcm).mono ?_
  rintro e w2 hop
  rcases hop with ⟨ho, o2, A2, c2, rfl, h2, hn2, hc2⟩ | ⟨ho, _⟩
  · rw [sealed_drop] at h2
    have hst : ∀ o, (convert 26 9 (.slice A2 2 c2)).run Try.prog (w2.alloc o) = .ok (.string (str [97, 98])) (w2.alloc o) := fun o =>
      run_string (P := Try.prog) Try.underlying26 Try.underlying5 Try.underlying9 (h2.cs.chg ((Chg.refl (fun _ => False) w2).alloc o) (fun _ _ _ hf => hf))
    go_wp2_with fail
    refine (Crc_calls (Cs.new w2 [49, 50, 51, 52, 53, 54, 55, 56, 57] _ (9, 10)) (by decide)).mono ?_
    rintro e w3 ⟨rfl, rfl⟩
    have hcr : ((crc [49, 50, 51, 52, 53, 54, 55, 56, 57] : Int) == 3421780262) = true := by rw [crc_check]; rfl
    go_wp2_with fail
    go_ret
    exact ⟨rfl, (((((Chg.refl (fun _ => False) w).alloc _).trans hc1 (fun _ _ h => h)).trans hc2 (fun _ _ h => h)).alloc _)⟩
  · rw [opens_sealed] at ho; cases ho

set_option maxRecDepth 100000 in
set_option maxHeartbeats 2000000 in
theorem sum_numbers (w : World) : Calls Try.prog 9 #[] w (Holds w) := by
  go_enter Try.func9, Try.ntmps9
  go_wp2_with fail
  refine (Open_calls (Cs.new w [1, 2, 3] _ (0, 0)) (by decide) (Nat.le_refl _) (by decide)).mono ?_
  rintro e w1 hop
  rcases hop with ⟨ho, _⟩ | ⟨_, rfl, hc1⟩
  · rw [opens_short] at ho; cases ho
  go_wp2_with fail
  refine (Open_calls (Cs.new w1 [0, 0, 0, 1] _ (0, 0)) (by decide) (Nat.le_refl _) (by decide)).mono ?_
  rintro e w2 hop
  rcases hop with ⟨ho, _⟩ | ⟨_, rfl, hc2⟩
  · rw [opens_wrong] at ho; cases ho
  go_wp2_with (at_make; refine wpList_makeZ rfl _ _ 26 rfl Try.underlying26 (by kernel_rfl) .i64 .i64 _ _ 4 rfl rfl (by omega) (by omega) (by omega) (by omega) ?_)
  intro w3 z3 hc3
  go_wp2_with fail
  refine (Open_calls z3 (by decide) (Nat.le_refl _) (by decide)).mono ?_
  rintro e w4 hop
  have hz4 : zeros 4 = [0, 0, 0, 0] := rfl
  rcases hop with ⟨_, o4, A4, c4, rfl, h4, hn4, hc4⟩ | ⟨ho, _⟩
  case inr => rw [hz4, opens_zero] at ho; cases ho
  have hc14 : Chg (fun _ => False) w w4 := ((((((Chg.refl (fun _ => False) w).alloc _).trans hc1 (fun _ _ h => h)).alloc _).trans hc2 (fun _ _ h => h)).trans hc3 (fun _ _ h => h)).trans hc4 (fun _ _ h => h)
  go_wp2_with fail
  refine (Crc_calls (S := fun _ => True) (l := []) Cs.none_ (by decide)).mono ?_
  rintro e w5 ⟨rfl, rfl⟩
  have hcn : ((crc [] : Int) == 0) = true := by rw [crc_nil]; rfl
  go_wp2_with fail
  refine (Seal_calls (S := fun _ => True) (l := []) Cs.none_ (by decide)).mono ?_
  rintro e w6 ⟨o6, A6, c6, rfl, h6, hn6, hc6⟩
  rw [sealed_nil] at h6
  have hst : (convert 26 9 (.slice A6 4 c6)).run Try.prog w6 = .ok (.string (str [0, 0, 0, 0])) w6 :=
    run_string (P := Try.prog) Try.underlying26 Try.underlying5 Try.underlying9 h6.cs
  have hss : (str [0, 0, 0, 0]).toList = [0, 0, 0, 0] := str_toList _
  go_wp2_with fail
  refine (known2 _).mono ?_
  rintro e w7 ⟨rfl, hc7⟩
  go_wp2_with fail
  go_ret
  exact ⟨rfl, (hc14.trans hc6 (fun _ _ h => h)).trans hc7 (fun _ _ h => h)⟩
end Go.Proofs.Ytnehkheojgmocaa
