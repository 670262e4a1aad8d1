/-
  The run in the large: rounds of TopDistinct's loop, by the kernel. No condition of ours.
-/
import Derived.Test.YtchkcnecgfolmaaGreatDoorDisLoopA
namespace Go.Proofs.YtchkcnecgfolmaaGreatDoor.Ev
open Go Go.Proofs
set_option maxRecDepth 1000000
theorem r_tak_2_0 : takChk 2 0 = true := by decide +kernel
theorem r_tak_2_1 : takChk 2 1 = true := by decide +kernel
theorem r_tak_2_2 : takChk 2 2 = true := by decide +kernel
theorem r_tak_3_0 : takChk 3 0 = true := by decide +kernel
theorem r_tak_3_1 : takChk 3 1 = true := by decide +kernel
theorem r_tak_3_2 : takChk 3 2 = true := by decide +kernel
theorem r_tak_4_0 : takChk 4 0 = true := by decide +kernel
theorem r_tak_4_1 : takChk 4 1 = true := by decide +kernel
theorem r_tak_4_2 : takChk 4 2 = true := by decide +kernel
theorem r_tak_5_0 : takChk 5 0 = true := by decide +kernel
end Go.Proofs.YtchkcnecgfolmaaGreatDoor.Ev
