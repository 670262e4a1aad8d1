/-
  The run in the large: entries of plan.Read. No condition of ours.
-/
import Derived.Test.YtchkcnecgfolmaaGreatDoorDisRunE
import Derived.Test.YtchkcnecgfolmaaGreatDoorDisRunC
namespace Go.Proofs.YtchkcnecgfolmaaGreatDoor.Ev
open Go Go.Proofs
set_option maxRecDepth 1000000
set_option linter.unusedVariables false
set_option linter.unusedSectionVars false
noncomputable def p9 : Ent := ⟨84, [(vX 30 284089292896909053021699801486181405582082790347143928726239583268923176)],
  [],
  6337, (.tuple [(.agg [(vI 7), (vX 0 0), .nilslice, .nilslice, .nilslice, .nilslice, (vL 6420 0 1), (vL 6429 0 1)]), (vI 0), (vI 0)]),
  [(6420, bO [(vX 1 110), (vX 5 500069396323), (vX 0 0)] 3), (6429, bO [(vI 1), (vX 1 117), .nilslice, .nilslice, .nilslice, .nilslice, .nilslice, .nilslice] 8)], 6502⟩
noncomputable def p10 : Ent := ⟨84, [(vX 30 284089292896909053021699801486181405582082790347143928726239583268923176)],
  [],
  6698, (.tuple [(.agg [(vI 7), (vX 0 0), .nilslice, .nilslice, .nilslice, .nilslice, (vL 6781 0 1), (vL 6790 0 1)]), (vI 0), (vI 0)]),
  [(6781, bO [(vX 1 110), (vX 5 500069396323), (vX 0 0)] 3), (6790, bO [(vI 1), (vX 1 117), .nilslice, .nilslice, .nilslice, .nilslice, .nilslice, .nilslice] 8)], 6863⟩
noncomputable def p11 : Ent := ⟨84, [(vX 30 284089292896909053021699801486181405582082790347143928726239583268923176)],
  [],
  6943, (.tuple [(.agg [(vI 7), (vX 0 0), .nilslice, .nilslice, .nilslice, .nilslice, (vL 7026 0 1), (vL 7035 0 1)]), (vI 0), (vI 0)]),
  [(7026, bO [(vX 1 110), (vX 5 500069396323), (vX 0 0)] 3), (7035, bO [(vI 1), (vX 1 117), .nilslice, .nilslice, .nilslice, .nilslice, .nilslice, .nilslice] 8)], 7108⟩
noncomputable def p12 : Ent := ⟨84, [(vX 30 284089292896909053021699801486181405582082790347143928726239583268923176)],
  [],
  7209, (.tuple [(.agg [(vI 7), (vX 0 0), .nilslice, .nilslice, .nilslice, .nilslice, (vL 7292 0 1), (vL 7301 0 1)]), (vI 0), (vI 0)]),
  [(7292, bO [(vX 1 110), (vX 5 500069396323), (vX 0 0)] 3), (7301, bO [(vI 1), (vX 1 117), .nilslice, .nilslice, .nilslice, .nilslice, .nilslice, .nilslice] 8)], 7374⟩
noncomputable def p13 : Ent := ⟨84, [(vX 30 284089292896909053021699801486181405582082790347143928726239583268923176)],
  [],
  7383, (.tuple [(.agg [(vI 7), (vX 0 0), .nilslice, .nilslice, .nilslice, .nilslice, (vL 7466 0 1), (vL 7475 0 1)]), (vI 0), (vI 0)]),
  [(7466, bO [(vX 1 110), (vX 5 500069396323), (vX 0 0)] 3), (7475, bO [(vI 1), (vX 1 117), .nilslice, .nilslice, .nilslice, .nilslice, .nilslice, .nilslice] 8)], 7548⟩
noncomputable def p14 : Ent := ⟨84, [(vX 30 284089292896909053021699801486181405582082790347143928726239583268923176)],
  [],
  7634, (.tuple [(.agg [(vI 7), (vX 0 0), .nilslice, .nilslice, .nilslice, .nilslice, (vL 7717 0 1), (vL 7726 0 1)]), (vI 0), (vI 0)]),
  [(7717, bO [(vX 1 110), (vX 5 500069396323), (vX 0 0)] 3), (7726, bO [(vI 1), (vX 1 117), .nilslice, .nilslice, .nilslice, .nilslice, .nilslice, .nilslice] 8)], 7799⟩
noncomputable def p15 : Ent := ⟨84, [(vX 30 284089292896909053021699801486181405582082790347143928726239583268923176)],
  [],
  10001, (.tuple [(.agg [(vI 7), (vX 0 0), .nilslice, .nilslice, .nilslice, .nilslice, (vL 10084 0 1), (vL 10093 0 1)]), (vI 0), (vI 0)]),
  [(10084, bO [(vX 1 110), (vX 5 500069396323), (vX 0 0)] 3), (10093, bO [(vI 1), (vX 1 117), .nilslice, .nilslice, .nilslice, .nilslice, .nilslice, .nilslice] 8)], 10166⟩
noncomputable def p16 : Ent := ⟨84, [(vX 30 284089292896909053021699801486181405582082790347143928726239583268923176)],
  [],
  10353, (.tuple [(.agg [(vI 7), (vX 0 0), .nilslice, .nilslice, .nilslice, .nilslice, (vL 10436 0 1), (vL 10445 0 1)]), (vI 0), (vI 0)]),
  [(10436, bO [(vX 1 110), (vX 5 500069396323), (vX 0 0)] 3), (10445, bO [(vI 1), (vX 1 117), .nilslice, .nilslice, .nilslice, .nilslice, .nilslice, .nilslice] 8)], 10518⟩
noncomputable def p17 : Ent := ⟨84, [(vX 30 284089292896909053021699801486181405582082790347143928726239583268923176)],
  [],
  10688, (.tuple [(.agg [(vI 7), (vX 0 0), .nilslice, .nilslice, .nilslice, .nilslice, (vL 10771 0 1), (vL 10780 0 1)]), (vI 0), (vI 0)]),
  [(10771, bO [(vX 1 110), (vX 5 500069396323), (vX 0 0)] 3), (10780, bO [(vI 1), (vX 1 117), .nilslice, .nilslice, .nilslice, .nilslice, .nilslice, .nilslice] 8)], 10853⟩
theorem p9_chk : entChkM Tryz.prog B0 M0 1000000 200 p9 = true := by decide +kernel
theorem p10_chk : entChkM Tryz.prog B0 M0 1000000 200 p10 = true := by decide +kernel
theorem p11_chk : entChkM Tryz.prog B0 M0 1000000 200 p11 = true := by decide +kernel
theorem p12_chk : entChkM Tryz.prog B0 M0 1000000 200 p12 = true := by decide +kernel
theorem p13_chk : entChkM Tryz.prog B0 M0 1000000 200 p13 = true := by decide +kernel
theorem p14_chk : entChkM Tryz.prog B0 M0 1000000 200 p14 = true := by decide +kernel
theorem p15_chk : entChkM Tryz.prog B0 M0 1000000 200 p15 = true := by decide +kernel
theorem p16_chk : entChkM Tryz.prog B0 M0 1000000 200 p16 = true := by decide +kernel
theorem p17_chk : entChkM Tryz.prog B0 M0 1000000 200 p17 = true := by decide +kernel
end Go.Proofs.YtchkcnecgfolmaaGreatDoor.Ev
