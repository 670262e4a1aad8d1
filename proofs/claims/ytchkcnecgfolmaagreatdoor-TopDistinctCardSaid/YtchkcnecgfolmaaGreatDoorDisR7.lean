/-
  The run in the large: rounds of TopDistinct's loop, by the kernel. No condition of ours.
-/
import Derived.Test.YtchkcnecgfolmaaGreatDoorDisLoopA
namespace Go.Proofs.YtchkcnecgfolmaaGreatDoor.Ev
open Go Go.Proofs
set_option maxRecDepth 1000000
theorem r_tak_15_1 : takChk 15 1 = true := by decide +kernel
theorem r_tak_15_2 : takChk 15 2 = true := by decide +kernel
theorem r_tak_16_0 : takChk 16 0 = true := by decide +kernel
theorem r_tak_16_1 : takChk 16 1 = true := by decide +kernel
theorem r_tak_16_2 : takChk 16 2 = true := by decide +kernel
theorem r_tak_17_0 : takChk 17 0 = true := by decide +kernel
theorem r_tak_17_1 : takChk 17 1 = true := by decide +kernel
theorem r_tak_17_2 : takChk 17 2 = true := by decide +kernel
theorem r_tak_18_0 : takChk 18 0 = true := by decide +kernel
theorem r_tak_18_1 : takChk 18 1 = true := by decide +kernel
end Go.Proofs.YtchkcnecgfolmaaGreatDoor.Ev
