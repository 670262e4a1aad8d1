/-
  The run in the large: entries of plan.Read. No condition of ours.
-/
import Derived.Test.YtchkcnecgfolmaaGreatDoorDisRunE
import Derived.Test.YtchkcnecgfolmaaGreatDoorDisRunC
namespace Go.Proofs.YtchkcnecgfolmaaGreatDoor.Ev
open Go Go.Proofs
set_option maxRecDepth 1000000
set_option linter.unusedVariables false
set_option linter.unusedSectionVars false
noncomputable def p0 : Ent := ⟨84, [(vX 30 284089292896909053021699801486181405582082790347143928726239583268923176)],
  [],
  4093, (.tuple [(.agg [(vI 7), (vX 0 0), .nilslice, .nilslice, .nilslice, .nilslice, (vL 4176 0 1), (vL 4185 0 1)]), (vI 0), (vI 0)]),
  [(4176, bO [(vX 1 110), (vX 5 500069396323), (vX 0 0)] 3), (4185, bO [(vI 1), (vX 1 117), .nilslice, .nilslice, .nilslice, .nilslice, .nilslice, .nilslice] 8)], 4258⟩
noncomputable def p1 : Ent := ⟨84, [(vX 30 284089292896909053021699801486181405582082790347143928726239583268923176)],
  [],
  4338, (.tuple [(.agg [(vI 7), (vX 0 0), .nilslice, .nilslice, .nilslice, .nilslice, (vL 4421 0 1), (vL 4430 0 1)]), (vI 0), (vI 0)]),
  [(4421, bO [(vX 1 110), (vX 5 500069396323), (vX 0 0)] 3), (4430, bO [(vI 1), (vX 1 117), .nilslice, .nilslice, .nilslice, .nilslice, .nilslice, .nilslice] 8)], 4503⟩
noncomputable def p2 : Ent := ⟨84, [(vX 30 284089292896909053021699801486181405582082790347143928726239583268923176)],
  [],
  4604, (.tuple [(.agg [(vI 7), (vX 0 0), .nilslice, .nilslice, .nilslice, .nilslice, (vL 4687 0 1), (vL 4696 0 1)]), (vI 0), (vI 0)]),
  [(4687, bO [(vX 1 110), (vX 5 500069396323), (vX 0 0)] 3), (4696, bO [(vI 1), (vX 1 117), .nilslice, .nilslice, .nilslice, .nilslice, .nilslice, .nilslice] 8)], 4769⟩
noncomputable def p3 : Ent := ⟨84, [(vX 30 284089292896909053021699801486181405582082790347143928726239583268923176)],
  [],
  4778, (.tuple [(.agg [(vI 7), (vX 0 0), .nilslice, .nilslice, .nilslice, .nilslice, (vL 4861 0 1), (vL 4870 0 1)]), (vI 0), (vI 0)]),
  [(4861, bO [(vX 1 110), (vX 5 500069396323), (vX 0 0)] 3), (4870, bO [(vI 1), (vX 1 117), .nilslice, .nilslice, .nilslice, .nilslice, .nilslice, .nilslice] 8)], 4943⟩
noncomputable def p4 : Ent := ⟨84, [(vX 30 284089292896909053021699801486181405582082790347143928726239583268923176)],
  [],
  5029, (.tuple [(.agg [(vI 7), (vX 0 0), .nilslice, .nilslice, .nilslice, .nilslice, (vL 5112 0 1), (vL 5121 0 1)]), (vI 0), (vI 0)]),
  [(5112, bO [(vX 1 110), (vX 5 500069396323), (vX 0 0)] 3), (5121, bO [(vI 1), (vX 1 117), .nilslice, .nilslice, .nilslice, .nilslice, .nilslice, .nilslice] 8)], 5194⟩
noncomputable def p5 : Ent := ⟨84, [(vX 30 284089292896909053021699801486181405582082790347143928726239583268923176)],
  [],
  5401, (.tuple [(.agg [(vI 7), (vX 0 0), .nilslice, .nilslice, .nilslice, .nilslice, (vL 5484 0 1), (vL 5493 0 1)]), (vI 0), (vI 0)]),
  [(5484, bO [(vX 1 110), (vX 5 500069396323), (vX 0 0)] 3), (5493, bO [(vI 1), (vX 1 117), .nilslice, .nilslice, .nilslice, .nilslice, .nilslice, .nilslice] 8)], 5566⟩
noncomputable def p6 : Ent := ⟨84, [(vX 30 284089292896909053021699801486181405582082790347143928726239583268923176)],
  [],
  5646, (.tuple [(.agg [(vI 7), (vX 0 0), .nilslice, .nilslice, .nilslice, .nilslice, (vL 5729 0 1), (vL 5738 0 1)]), (vI 0), (vI 0)]),
  [(5729, bO [(vX 1 110), (vX 5 500069396323), (vX 0 0)] 3), (5738, bO [(vI 1), (vX 1 117), .nilslice, .nilslice, .nilslice, .nilslice, .nilslice, .nilslice] 8)], 5811⟩
noncomputable def p7 : Ent := ⟨84, [(vX 30 284089292896909053021699801486181405582082790347143928726239583268923176)],
  [],
  5912, (.tuple [(.agg [(vI 7), (vX 0 0), .nilslice, .nilslice, .nilslice, .nilslice, (vL 5995 0 1), (vL 6004 0 1)]), (vI 0), (vI 0)]),
  [(5995, bO [(vX 1 110), (vX 5 500069396323), (vX 0 0)] 3), (6004, bO [(vI 1), (vX 1 117), .nilslice, .nilslice, .nilslice, .nilslice, .nilslice, .nilslice] 8)], 6077⟩
noncomputable def p8 : Ent := ⟨84, [(vX 30 284089292896909053021699801486181405582082790347143928726239583268923176)],
  [],
  6086, (.tuple [(.agg [(vI 7), (vX 0 0), .nilslice, .nilslice, .nilslice, .nilslice, (vL 6169 0 1), (vL 6178 0 1)]), (vI 0), (vI 0)]),
  [(6169, bO [(vX 1 110), (vX 5 500069396323), (vX 0 0)] 3), (6178, bO [(vI 1), (vX 1 117), .nilslice, .nilslice, .nilslice, .nilslice, .nilslice, .nilslice] 8)], 6251⟩
theorem p0_chk : entChkM Tryz.prog B0 M0 1000000 200 p0 = true := by decide +kernel
theorem p1_chk : entChkM Tryz.prog B0 M0 1000000 200 p1 = true := by decide +kernel
theorem p2_chk : entChkM Tryz.prog B0 M0 1000000 200 p2 = true := by decide +kernel
theorem p3_chk : entChkM Tryz.prog B0 M0 1000000 200 p3 = true := by decide +kernel
theorem p4_chk : entChkM Tryz.prog B0 M0 1000000 200 p4 = true := by decide +kernel
theorem p5_chk : entChkM Tryz.prog B0 M0 1000000 200 p5 = true := by decide +kernel
theorem p6_chk : entChkM Tryz.prog B0 M0 1000000 200 p6 = true := by decide +kernel
theorem p7_chk : entChkM Tryz.prog B0 M0 1000000 200 p7 = true := by decide +kernel
theorem p8_chk : entChkM Tryz.prog B0 M0 1000000 200 p8 = true := by decide +kernel
end Go.Proofs.YtchkcnecgfolmaaGreatDoor.Ev
