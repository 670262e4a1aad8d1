/-
  The run in the large: rounds of TopDistinct's loop, by the kernel. No condition of ours.
-/
import Derived.Test.YtchkcnecgfolmaaGreatDoorDisLoopA
namespace Go.Proofs.YtchkcnecgfolmaaGreatDoor.Ev
open Go Go.Proofs
set_option maxRecDepth 1000000
theorem r_tak_25_1 : takChk 25 1 = true := by decide +kernel
theorem r_tak_25_2 : takChk 25 2 = true := by decide +kernel
theorem r_tak_26_0 : takChk 26 0 = true := by decide +kernel
theorem r_tak_26_1 : takChk 26 1 = true := by decide +kernel
theorem r_tak_26_2 : takChk 26 2 = true := by decide +kernel
theorem r_tak_27_0 : takChk 27 0 = true := by decide +kernel
theorem r_tak_27_1 : takChk 27 1 = true := by decide +kernel
theorem r_tak_27_2 : takChk 27 2 = true := by decide +kernel
theorem r_tak_28_0 : takChk 28 0 = true := by decide +kernel
theorem r_tak_28_1 : takChk 28 1 = true := by decide +kernel
end Go.Proofs.YtchkcnecgfolmaaGreatDoor.Ev
