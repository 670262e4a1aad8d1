/-
  The run in the large: rounds of TopDistinct's loop, by the kernel. No condition of ours.
-/
import Derived.Test.YtchkcnecgfolmaaGreatDoorDisLoopA
namespace Go.Proofs.YtchkcnecgfolmaaGreatDoor.Ev
open Go Go.Proofs
set_option maxRecDepth 1000000
theorem r_tak_5_1 : takChk 5 1 = true := by decide +kernel
theorem r_tak_5_2 : takChk 5 2 = true := by decide +kernel
theorem r_tak_6_0 : takChk 6 0 = true := by decide +kernel
theorem r_tak_6_1 : takChk 6 1 = true := by decide +kernel
theorem r_tak_6_2 : takChk 6 2 = true := by decide +kernel
theorem r_tak_7_0 : takChk 7 0 = true := by decide +kernel
theorem r_tak_7_1 : takChk 7 1 = true := by decide +kernel
theorem r_tak_7_2 : takChk 7 2 = true := by decide +kernel
theorem r_tak_8_0 : takChk 8 0 = true := by decide +kernel
theorem r_tak_8_1 : takChk 8 1 = true := by decide +kernel
end Go.Proofs.YtchkcnecgfolmaaGreatDoor.Ev
