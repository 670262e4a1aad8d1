/-
  The run in the large: entries of plan.Read. No condition of ours.
-/
import Derived.Test.YtchkcnecgfolmaaGreatDoorDisRunE
import Derived.Test.YtchkcnecgfolmaaGreatDoorDisRunC
namespace Go.Proofs.YtchkcnecgfolmaaGreatDoor.Ev
open Go Go.Proofs
set_option maxRecDepth 1000000
set_option linter.unusedVariables false
set_option linter.unusedSectionVars false
noncomputable def p18 : Ent := ⟨84, [(vX 31 72726858981608717573555149180462439829013194328868846805935682800617416488)],
  [],
  51, (.tuple [(.agg [(vI 7), (vX 0 0), .nilslice, .nilslice, (vL 139 0 1), .nilslice, (vL 146 0 1), (vL 155 0 1)]), (vI 0), (vI 0)]),
  [(139, bO [(vX 1 97)] 1), (146, bO [(vX 1 110), (vX 5 500069396323), (vX 0 0)] 3), (155, bO [(vI 1), (vX 1 117), .nilslice, .nilslice, .nilslice, .nilslice, .nilslice, .nilslice] 8)], 235⟩
noncomputable def p19 : Ent := ⟨84, [(vX 31 72726858981608717573555149180462439829013194328868846805935682800617416488)],
  [],
  322, (.tuple [(.agg [(vI 7), (vX 0 0), .nilslice, .nilslice, (vL 410 0 1), .nilslice, (vL 417 0 1), (vL 426 0 1)]), (vI 0), (vI 0)]),
  [(410, bO [(vX 1 97)] 1), (417, bO [(vX 1 110), (vX 5 500069396323), (vX 0 0)] 3), (426, bO [(vI 1), (vX 1 117), .nilslice, .nilslice, .nilslice, .nilslice, .nilslice, .nilslice] 8)], 506⟩
noncomputable def p20 : Ent := ⟨84, [(vX 31 72726858981608717573555149180462439829013194328868846805935682800617416488)],
  [],
  620, (.tuple [(.agg [(vI 7), (vX 0 0), .nilslice, .nilslice, (vL 708 0 1), .nilslice, (vL 715 0 1), (vL 724 0 1)]), (vI 0), (vI 0)]),
  [(708, bO [(vX 1 97)] 1), (715, bO [(vX 1 110), (vX 5 500069396323), (vX 0 0)] 3), (724, bO [(vI 1), (vX 1 117), .nilslice, .nilslice, .nilslice, .nilslice, .nilslice, .nilslice] 8)], 804⟩
noncomputable def p21 : Ent := ⟨84, [(vX 31 72726858981608717573555149180462439829013194328868846805935682800617416488)],
  [],
  813, (.tuple [(.agg [(vI 7), (vX 0 0), .nilslice, .nilslice, (vL 901 0 1), .nilslice, (vL 908 0 1), (vL 917 0 1)]), (vI 0), (vI 0)]),
  [(901, bO [(vX 1 97)] 1), (908, bO [(vX 1 110), (vX 5 500069396323), (vX 0 0)] 3), (917, bO [(vI 1), (vX 1 117), .nilslice, .nilslice, .nilslice, .nilslice, .nilslice, .nilslice] 8)], 997⟩
noncomputable def p22 : Ent := ⟨84, [(vX 31 72726858981608717573555149180462439829013194328868846805935682800617416488)],
  [],
  1090, (.tuple [(.agg [(vI 7), (vX 0 0), .nilslice, .nilslice, (vL 1178 0 1), .nilslice, (vL 1185 0 1), (vL 1194 0 1)]), (vI 0), (vI 0)]),
  [(1178, bO [(vX 1 97)] 1), (1185, bO [(vX 1 110), (vX 5 500069396323), (vX 0 0)] 3), (1194, bO [(vI 1), (vX 1 117), .nilslice, .nilslice, .nilslice, .nilslice, .nilslice, .nilslice] 8)], 1274⟩
noncomputable def p23 : Ent := ⟨84, [(vX 30 284089292896909053021699801484673944094277366379541588482826501845313320)],
  [],
  1410, (.tuple [(.agg [(vI 7), (vX 0 0), .nilslice, .nilslice, .nilslice, .nilslice, (vL 1502 0 1), (vL 1511 0 1)]), (vI 0), (vI 0)]),
  [(1502, bO [(vX 1 110), (vX 3 7173491), (vX 1 99)] 3), (1511, bO [(vI 1), (vX 1 117), .nilslice, .nilslice, .nilslice, .nilslice, .nilslice, .nilslice] 8)], 1593⟩
noncomputable def p24 : Ent := ⟨84, [(vX 30 284089292896909053021699801484673944094277366379541588482826501845313320)],
  [],
  1682, (.tuple [(.agg [(vI 7), (vX 0 0), .nilslice, .nilslice, .nilslice, .nilslice, (vL 1774 0 1), (vL 1783 0 1)]), (vI 0), (vI 0)]),
  [(1774, bO [(vX 1 110), (vX 3 7173491), (vX 1 99)] 3), (1783, bO [(vI 1), (vX 1 117), .nilslice, .nilslice, .nilslice, .nilslice, .nilslice, .nilslice] 8)], 1865⟩
noncomputable def p25 : Ent := ⟨84, [(vX 30 284089292896909053021699801484673944094277366379541588482826501845313320)],
  [],
  1975, (.tuple [(.agg [(vI 7), (vX 0 0), .nilslice, .nilslice, .nilslice, .nilslice, (vL 2067 0 1), (vL 2076 0 1)]), (vI 0), (vI 0)]),
  [(2067, bO [(vX 1 110), (vX 3 7173491), (vX 1 99)] 3), (2076, bO [(vI 1), (vX 1 117), .nilslice, .nilslice, .nilslice, .nilslice, .nilslice, .nilslice] 8)], 2158⟩
noncomputable def p26 : Ent := ⟨84, [(vX 30 284089292896909053021699801484673944094277366379541588482826501845313320)],
  [],
  2169, (.tuple [(.agg [(vI 7), (vX 0 0), .nilslice, .nilslice, .nilslice, .nilslice, (vL 2261 0 1), (vL 2270 0 1)]), (vI 0), (vI 0)]),
  [(2261, bO [(vX 1 110), (vX 3 7173491), (vX 1 99)] 3), (2270, bO [(vI 1), (vX 1 117), .nilslice, .nilslice, .nilslice, .nilslice, .nilslice, .nilslice] 8)], 2352⟩
theorem p18_chk : entChkM Tryz.prog B0 M0 1000000 200 p18 = true := by decide +kernel
theorem p19_chk : entChkM Tryz.prog B0 M0 1000000 200 p19 = true := by decide +kernel
theorem p20_chk : entChkM Tryz.prog B0 M0 1000000 200 p20 = true := by decide +kernel
theorem p21_chk : entChkM Tryz.prog B0 M0 1000000 200 p21 = true := by decide +kernel
theorem p22_chk : entChkM Tryz.prog B0 M0 1000000 200 p22 = true := by decide +kernel
theorem p23_chk : entChkM Tryz.prog B0 M0 1000000 200 p23 = true := by decide +kernel
theorem p24_chk : entChkM Tryz.prog B0 M0 1000000 200 p24 = true := by decide +kernel
theorem p25_chk : entChkM Tryz.prog B0 M0 1000000 200 p25 = true := by decide +kernel
theorem p26_chk : entChkM Tryz.prog B0 M0 1000000 200 p26 = true := by decide +kernel
end Go.Proofs.YtchkcnecgfolmaaGreatDoor.Ev
