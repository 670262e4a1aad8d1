/-
  The run in the large: entries of plan.Read. No condition of ours.
-/
import Derived.Test.YtchkcnecgfolmaaGreatDoorDisRunE
import Derived.Test.YtchkcnecgfolmaaGreatDoorDisRunC
namespace Go.Proofs.YtchkcnecgfolmaaGreatDoor.Ev
open Go Go.Proofs
set_option maxRecDepth 1000000
set_option linter.unusedVariables false
set_option linter.unusedSectionVars false
noncomputable def p27 : Ent := ⟨84, [(vX 30 284089292896909053021699801484673944094277366379541588482826501845313320)],
  [],
  2447, (.tuple [(.agg [(vI 7), (vX 0 0), .nilslice, .nilslice, .nilslice, .nilslice, (vL 2539 0 1), (vL 2548 0 1)]), (vI 0), (vI 0)]),
  [(2539, bO [(vX 1 110), (vX 3 7173491), (vX 1 99)] 3), (2548, bO [(vI 1), (vX 1 117), .nilslice, .nilslice, .nilslice, .nilslice, .nilslice, .nilslice] 8)], 2630⟩
noncomputable def p28 : Ent := ⟨84, [(vX 31 72726858981608717573555149180462439829013194328868846805935682800617416488)],
  [],
  2882, (.tuple [(.agg [(vI 7), (vX 0 0), .nilslice, .nilslice, (vL 2970 0 1), .nilslice, (vL 2977 0 1), (vL 2986 0 1)]), (vI 0), (vI 0)]),
  [(2970, bO [(vX 1 97)] 1), (2977, bO [(vX 1 110), (vX 5 500069396323), (vX 0 0)] 3), (2986, bO [(vI 1), (vX 1 117), .nilslice, .nilslice, .nilslice, .nilslice, .nilslice, .nilslice] 8)], 3066⟩
noncomputable def p29 : Ent := ⟨84, [(vX 30 284089292896909053021699801484673944094277366379541588482826501845313320)],
  [],
  3071, (.tuple [(.agg [(vI 7), (vX 0 0), .nilslice, .nilslice, .nilslice, .nilslice, (vL 3163 0 1), (vL 3172 0 1)]), (vI 0), (vI 0)]),
  [(3163, bO [(vX 1 110), (vX 3 7173491), (vX 1 99)] 3), (3172, bO [(vI 1), (vX 1 117), .nilslice, .nilslice, .nilslice, .nilslice, .nilslice, .nilslice] 8)], 3254⟩
noncomputable def p30 : Ent := ⟨84, [(vX 31 72726858981608717573555149180462439829013194328868846805935682800617416488)],
  [],
  3398, (.tuple [(.agg [(vI 7), (vX 0 0), .nilslice, .nilslice, (vL 3486 0 1), .nilslice, (vL 3493 0 1), (vL 3502 0 1)]), (vI 0), (vI 0)]),
  [(3486, bO [(vX 1 97)] 1), (3493, bO [(vX 1 110), (vX 5 500069396323), (vX 0 0)] 3), (3502, bO [(vI 1), (vX 1 117), .nilslice, .nilslice, .nilslice, .nilslice, .nilslice, .nilslice] 8)], 3582⟩
noncomputable def p31 : Ent := ⟨84, [(vX 30 284089292896909053021699801484673944094277366379541588482826501845313320)],
  [],
  3587, (.tuple [(.agg [(vI 7), (vX 0 0), .nilslice, .nilslice, .nilslice, .nilslice, (vL 3679 0 1), (vL 3688 0 1)]), (vI 0), (vI 0)]),
  [(3679, bO [(vX 1 110), (vX 3 7173491), (vX 1 99)] 3), (3688, bO [(vI 1), (vX 1 117), .nilslice, .nilslice, .nilslice, .nilslice, .nilslice, .nilslice] 8)], 3770⟩
noncomputable def p32 : Ent := ⟨84, [(vX 31 72726858981608717573555149180462439829013194328868846805935682800617416488)],
  [],
  3545, (.tuple [(.agg [(vI 7), (vX 0 0), .nilslice, .nilslice, (vL 3633 0 1), .nilslice, (vL 3640 0 1), (vL 3649 0 1)]), (vI 0), (vI 0)]),
  [(3633, bO [(vX 1 97)] 1), (3640, bO [(vX 1 110), (vX 5 500069396323), (vX 0 0)] 3), (3649, bO [(vI 1), (vX 1 117), .nilslice, .nilslice, .nilslice, .nilslice, .nilslice, .nilslice] 8)], 3729⟩
noncomputable def p33 : Ent := ⟨84, [(vX 30 284089292896909053021699801484673944094277366379541588482826501845313320)],
  [],
  3734, (.tuple [(.agg [(vI 7), (vX 0 0), .nilslice, .nilslice, .nilslice, .nilslice, (vL 3826 0 1), (vL 3835 0 1)]), (vI 0), (vI 0)]),
  [(3826, bO [(vX 1 110), (vX 3 7173491), (vX 1 99)] 3), (3835, bO [(vI 1), (vX 1 117), .nilslice, .nilslice, .nilslice, .nilslice, .nilslice, .nilslice] 8)], 3917⟩
noncomputable def p34 : Ent := ⟨84, [(vX 31 72726858981608717573555149180462439829013194328868846805935682800617416488)],
  [],
  3546, (.tuple [(.agg [(vI 7), (vX 0 0), .nilslice, .nilslice, (vL 3634 0 1), .nilslice, (vL 3641 0 1), (vL 3650 0 1)]), (vI 0), (vI 0)]),
  [(3634, bO [(vX 1 97)] 1), (3641, bO [(vX 1 110), (vX 5 500069396323), (vX 0 0)] 3), (3650, bO [(vI 1), (vX 1 117), .nilslice, .nilslice, .nilslice, .nilslice, .nilslice, .nilslice] 8)], 3730⟩
noncomputable def p35 : Ent := ⟨84, [(vX 30 284089292896909053021699801484673944094277366379541588482826501845313320)],
  [],
  3735, (.tuple [(.agg [(vI 7), (vX 0 0), .nilslice, .nilslice, .nilslice, .nilslice, (vL 3827 0 1), (vL 3836 0 1)]), (vI 0), (vI 0)]),
  [(3827, bO [(vX 1 110), (vX 3 7173491), (vX 1 99)] 3), (3836, bO [(vI 1), (vX 1 117), .nilslice, .nilslice, .nilslice, .nilslice, .nilslice, .nilslice] 8)], 3918⟩
theorem p27_chk : entChkM Tryz.prog B0 M0 1000000 200 p27 = true := by decide +kernel
theorem p28_chk : entChkM Tryz.prog B0 M0 1000000 200 p28 = true := by decide +kernel
theorem p29_chk : entChkM Tryz.prog B0 M0 1000000 200 p29 = true := by decide +kernel
theorem p30_chk : entChkM Tryz.prog B0 M0 1000000 200 p30 = true := by decide +kernel
theorem p31_chk : entChkM Tryz.prog B0 M0 1000000 200 p31 = true := by decide +kernel
theorem p32_chk : entChkM Tryz.prog B0 M0 1000000 200 p32 = true := by decide +kernel
theorem p33_chk : entChkM Tryz.prog B0 M0 1000000 200 p33 = true := by decide +kernel
theorem p34_chk : entChkM Tryz.prog B0 M0 1000000 200 p34 = true := by decide +kernel
theorem p35_chk : entChkM Tryz.prog B0 M0 1000000 200 p35 = true := by decide +kernel
end Go.Proofs.YtchkcnecgfolmaaGreatDoor.Ev
