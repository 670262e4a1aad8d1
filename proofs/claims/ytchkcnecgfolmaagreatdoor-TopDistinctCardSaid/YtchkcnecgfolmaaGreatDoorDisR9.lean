/-
  The run in the large: rounds of TopDistinct's loop, by the kernel. No condition of ours.
-/
import Derived.Test.YtchkcnecgfolmaaGreatDoorDisLoopA
namespace Go.Proofs.YtchkcnecgfolmaaGreatDoor.Ev
open Go Go.Proofs
set_option maxRecDepth 1000000
theorem r_tak_22_0 : takChk 22 0 = true := by decide +kernel
theorem r_tak_22_1 : takChk 22 1 = true := by decide +kernel
theorem r_tak_22_2 : takChk 22 2 = true := by decide +kernel
theorem r_tak_23_0 : takChk 23 0 = true := by decide +kernel
theorem r_tak_23_1 : takChk 23 1 = true := by decide +kernel
theorem r_tak_23_2 : takChk 23 2 = true := by decide +kernel
theorem r_tak_24_0 : takChk 24 0 = true := by decide +kernel
theorem r_tak_24_1 : takChk 24 1 = true := by decide +kernel
theorem r_tak_24_2 : takChk 24 2 = true := by decide +kernel
theorem r_tak_25_0 : takChk 25 0 = true := by decide +kernel
end Go.Proofs.YtchkcnecgfolmaaGreatDoor.Ev
