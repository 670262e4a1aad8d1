/-
  What plan.Read gives for the texts that are met. No condition of ours.
-/
import Derived.Test.YtchkcnecgfolmaaGreatDoorDisRunE
import Derived.Test.YtchkcnecgfolmaaGreatDoorDisP0
import Derived.Test.YtchkcnecgfolmaaGreatDoorDisP1
import Derived.Test.YtchkcnecgfolmaaGreatDoorDisP2
import Derived.Test.YtchkcnecgfolmaaGreatDoorDisP3
namespace Go.Proofs.YtchkcnecgfolmaaGreatDoor.Ev
open Go Go.Proofs
set_option maxRecDepth 1000000
set_option linter.unusedVariables false
set_option linter.unusedSectionVars false
noncomputable def PL : List (Nat × Orc) := [(84, tabO [ p0, p1, p2, p3, p4, p5, p6, p7, p8, p9, p10, p11, p12, p13, p14, p15, p16, p17, p18, p19, p20, p21, p22, p23, p24, p25, p26, p27, p28, p29, p30, p31, p32, p33, p34, p35])]
noncomputable def BP : Base := { fn := fun f => fnT.get f, keep := keepT, reg := fun _ _ => none, orc := fun f => (putL (OL ++ PL) .lf).get f }
end Go.Proofs.YtchkcnecgfolmaaGreatDoor.Ev
namespace Go.Proofs.YtchkcnecgfolmaaGreatDoor.Ev
open Go Go.Proofs
set_option maxRecDepth 1000000
set_option linter.unusedVariables false
set_option linter.unusedSectionVars false
variable [Sig]
theorem PL_ok : ∀ x ∈ PL, OrcOK Tryz.prog x.1 x.2 := by
  intro x hx
  simp only [PL, List.mem_cons, List.not_mem_nil, or_false] at hx
  subst hx
  · refine tab_ok fun e he => ?_
    simp only [List.mem_cons, List.not_mem_nil, or_false] at he
    rcases he with rfl | rfl | rfl | rfl | rfl | rfl | rfl | rfl | rfl | rfl | rfl | rfl | rfl | rfl | rfl | rfl | rfl | rfl | rfl | rfl | rfl | rfl | rfl | rfl | rfl | rfl | rfl | rfl | rfl | rfl | rfl | rfl | rfl | rfl | rfl | rfl
    · exact ⟨rfl, entM_ok B0_ok (fun _ _ => rfl) mixedP p0_chk⟩
    · exact ⟨rfl, entM_ok B0_ok (fun _ _ => rfl) mixedP p1_chk⟩
    · exact ⟨rfl, entM_ok B0_ok (fun _ _ => rfl) mixedP p2_chk⟩
    · exact ⟨rfl, entM_ok B0_ok (fun _ _ => rfl) mixedP p3_chk⟩
    · exact ⟨rfl, entM_ok B0_ok (fun _ _ => rfl) mixedP p4_chk⟩
    · exact ⟨rfl, entM_ok B0_ok (fun _ _ => rfl) mixedP p5_chk⟩
    · exact ⟨rfl, entM_ok B0_ok (fun _ _ => rfl) mixedP p6_chk⟩
    · exact ⟨rfl, entM_ok B0_ok (fun _ _ => rfl) mixedP p7_chk⟩
    · exact ⟨rfl, entM_ok B0_ok (fun _ _ => rfl) mixedP p8_chk⟩
    · exact ⟨rfl, entM_ok B0_ok (fun _ _ => rfl) mixedP p9_chk⟩
    · exact ⟨rfl, entM_ok B0_ok (fun _ _ => rfl) mixedP p10_chk⟩
    · exact ⟨rfl, entM_ok B0_ok (fun _ _ => rfl) mixedP p11_chk⟩
    · exact ⟨rfl, entM_ok B0_ok (fun _ _ => rfl) mixedP p12_chk⟩
    · exact ⟨rfl, entM_ok B0_ok (fun _ _ => rfl) mixedP p13_chk⟩
    · exact ⟨rfl, entM_ok B0_ok (fun _ _ => rfl) mixedP p14_chk⟩
    · exact ⟨rfl, entM_ok B0_ok (fun _ _ => rfl) mixedP p15_chk⟩
    · exact ⟨rfl, entM_ok B0_ok (fun _ _ => rfl) mixedP p16_chk⟩
    · exact ⟨rfl, entM_ok B0_ok (fun _ _ => rfl) mixedP p17_chk⟩
    · exact ⟨rfl, entM_ok B0_ok (fun _ _ => rfl) mixedP p18_chk⟩
    · exact ⟨rfl, entM_ok B0_ok (fun _ _ => rfl) mixedP p19_chk⟩
    · exact ⟨rfl, entM_ok B0_ok (fun _ _ => rfl) mixedP p20_chk⟩
    · exact ⟨rfl, entM_ok B0_ok (fun _ _ => rfl) mixedP p21_chk⟩
    · exact ⟨rfl, entM_ok B0_ok (fun _ _ => rfl) mixedP p22_chk⟩
    · exact ⟨rfl, entM_ok B0_ok (fun _ _ => rfl) mixedP p23_chk⟩
    · exact ⟨rfl, entM_ok B0_ok (fun _ _ => rfl) mixedP p24_chk⟩
    · exact ⟨rfl, entM_ok B0_ok (fun _ _ => rfl) mixedP p25_chk⟩
    · exact ⟨rfl, entM_ok B0_ok (fun _ _ => rfl) mixedP p26_chk⟩
    · exact ⟨rfl, entM_ok B0_ok (fun _ _ => rfl) mixedP p27_chk⟩
    · exact ⟨rfl, entM_ok B0_ok (fun _ _ => rfl) mixedP p28_chk⟩
    · exact ⟨rfl, entM_ok B0_ok (fun _ _ => rfl) mixedP p29_chk⟩
    · exact ⟨rfl, entM_ok B0_ok (fun _ _ => rfl) mixedP p30_chk⟩
    · exact ⟨rfl, entM_ok B0_ok (fun _ _ => rfl) mixedP p31_chk⟩
    · exact ⟨rfl, entM_ok B0_ok (fun _ _ => rfl) mixedP p32_chk⟩
    · exact ⟨rfl, entM_ok B0_ok (fun _ _ => rfl) mixedP p33_chk⟩
    · exact ⟨rfl, entM_ok B0_ok (fun _ _ => rfl) mixedP p34_chk⟩
    · exact ⟨rfl, entM_ok B0_ok (fun _ _ => rfl) mixedP p35_chk⟩
theorem BP_ok : BaseOK Tryz.prog BP := base_ok fun x hx => by
  rcases List.mem_append.1 hx with h | h
  · exact OL_ok x h
  · exact PL_ok x h
end Go.Proofs.YtchkcnecgfolmaaGreatDoor.Ev
