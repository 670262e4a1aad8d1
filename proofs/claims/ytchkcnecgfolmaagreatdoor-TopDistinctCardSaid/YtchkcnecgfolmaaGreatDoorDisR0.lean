/-
  The run in the large: rounds of TopDistinct's loop, by the kernel. No condition of ours.
-/
import Derived.Test.YtchkcnecgfolmaaGreatDoorDisLoopA
namespace Go.Proofs.YtchkcnecgfolmaaGreatDoor.Ev
open Go Go.Proofs
set_option maxRecDepth 1000000
theorem r_add_0 : addChk 0 = true := by decide +kernel
theorem r_add_1 : addChk 1 = true := by decide +kernel
theorem r_add_2 : addChk 2 = true := by decide +kernel
theorem r_add_3 : addChk 3 = true := by decide +kernel
theorem r_add_4 : addChk 4 = true := by decide +kernel
theorem r_add_5 : addChk 5 = true := by decide +kernel
theorem r_add_6 : addChk 6 = true := by decide +kernel
theorem r_add_7 : addChk 7 = true := by decide +kernel
theorem r_add_8 : addChk 8 = true := by decide +kernel
theorem r_add_9 : addChk 9 = true := by decide +kernel
end Go.Proofs.YtchkcnecgfolmaaGreatDoor.Ev
