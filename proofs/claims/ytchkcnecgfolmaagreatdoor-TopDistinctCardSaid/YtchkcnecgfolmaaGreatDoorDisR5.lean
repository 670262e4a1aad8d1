/-
  The run in the large: rounds of TopDistinct's loop, by the kernel. No condition of ours.
-/
import Derived.Test.YtchkcnecgfolmaaGreatDoorDisLoopA
namespace Go.Proofs.YtchkcnecgfolmaaGreatDoor.Ev
open Go Go.Proofs
set_option maxRecDepth 1000000
theorem r_tak_8_2 : takChk 8 2 = true := by decide +kernel
theorem r_tak_9_0 : takChk 9 0 = true := by decide +kernel
theorem r_tak_9_1 : takChk 9 1 = true := by decide +kernel
theorem r_tak_9_2 : takChk 9 2 = true := by decide +kernel
theorem r_tak_10_0 : takChk 10 0 = true := by decide +kernel
theorem r_tak_10_1 : takChk 10 1 = true := by decide +kernel
theorem r_tak_10_2 : takChk 10 2 = true := by decide +kernel
theorem r_tak_11_0 : takChk 11 0 = true := by decide +kernel
theorem r_tak_11_1 : takChk 11 1 = true := by decide +kernel
theorem r_tak_11_2 : takChk 11 2 = true := by decide +kernel
end Go.Proofs.YtchkcnecgfolmaaGreatDoor.Ev
