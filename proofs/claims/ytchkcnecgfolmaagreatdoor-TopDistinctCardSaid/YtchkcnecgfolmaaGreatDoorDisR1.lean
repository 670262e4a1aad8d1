/-
  The run in the large: rounds of TopDistinct's loop, by the kernel. No condition of ours.
-/
import Derived.Test.YtchkcnecgfolmaaGreatDoorDisLoopA
namespace Go.Proofs.YtchkcnecgfolmaaGreatDoor.Ev
open Go Go.Proofs
set_option maxRecDepth 1000000
theorem r_add_10 : addChk 10 = true := by decide +kernel
theorem r_add_11 : addChk 11 = true := by decide +kernel
theorem r_add_12 : addChk 12 = true := by decide +kernel
theorem r_add_13 : addChk 13 = true := by decide +kernel
theorem r_add_14 : addChk 14 = true := by decide +kernel
theorem r_add_15 : addChk 15 = true := by decide +kernel
theorem r_add_16 : addChk 16 = true := by decide +kernel
theorem r_add_17 : addChk 17 = true := by decide +kernel
theorem r_add_18 : addChk 18 = true := by decide +kernel
theorem r_add_19 : addChk 19 = true := by decide +kernel
end Go.Proofs.YtchkcnecgfolmaaGreatDoor.Ev
