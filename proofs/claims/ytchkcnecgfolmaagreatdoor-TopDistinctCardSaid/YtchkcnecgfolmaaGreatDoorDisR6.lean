/-
  The run in the large: rounds of TopDistinct's loop, by the kernel. No condition of ours.
-/
import Derived.Test.YtchkcnecgfolmaaGreatDoorDisLoopA
namespace Go.Proofs.YtchkcnecgfolmaaGreatDoor.Ev
open Go Go.Proofs
set_option maxRecDepth 1000000
theorem r_tak_12_0 : takChk 12 0 = true := by decide +kernel
theorem r_tak_12_1 : takChk 12 1 = true := by decide +kernel
theorem r_tak_12_2 : takChk 12 2 = true := by decide +kernel
theorem r_tak_13_0 : takChk 13 0 = true := by decide +kernel
theorem r_tak_13_1 : takChk 13 1 = true := by decide +kernel
theorem r_tak_13_2 : takChk 13 2 = true := by decide +kernel
theorem r_tak_14_0 : takChk 14 0 = true := by decide +kernel
theorem r_tak_14_1 : takChk 14 1 = true := by decide +kernel
theorem r_tak_14_2 : takChk 14 2 = true := by decide +kernel
theorem r_tak_15_0 : takChk 15 0 = true := by decide +kernel
end Go.Proofs.YtchkcnecgfolmaaGreatDoor.Ev
