/-
  The run in the large: rounds of TopDistinct's loop, by the kernel. No condition of ours.
-/
import Derived.Test.YtchkcnecgfolmaaGreatDoorDisLoopA
namespace Go.Proofs.YtchkcnecgfolmaaGreatDoor.Ev
open Go Go.Proofs
set_option maxRecDepth 1000000
theorem r_add_20 : addChk 20 = true := by decide +kernel
theorem r_add_21 : addChk 21 = true := by decide +kernel
theorem r_add_22 : addChk 22 = true := by decide +kernel
theorem r_add_23 : addChk 23 = true := by decide +kernel
theorem r_add_24 : addChk 24 = true := by decide +kernel
theorem r_add_25 : addChk 25 = true := by decide +kernel
theorem r_add_26 : addChk 26 = true := by decide +kernel
theorem r_add_27 : addChk 27 = true := by decide +kernel
theorem r_add_28 : addChk 28 = true := by decide +kernel
theorem r_add_29 : addChk 29 = true := by decide +kernel
end Go.Proofs.YtchkcnecgfolmaaGreatDoor.Ev
