/-
  The run in the large: rounds of TopDistinct's loop, by the kernel. No condition of ours.
-/
import Derived.Test.YtchkcnecgfolmaaGreatDoorDisLoopA
namespace Go.Proofs.YtchkcnecgfolmaaGreatDoor.Ev
open Go Go.Proofs
set_option maxRecDepth 1000000
theorem r_tak_28_2 : takChk 28 2 = true := by decide +kernel
theorem r_tak_29_0 : takChk 29 0 = true := by decide +kernel
theorem r_tak_29_1 : takChk 29 1 = true := by decide +kernel
theorem r_tak_30_0 : takChk 30 0 = true := by decide +kernel
theorem r_las_0 : lasChk 0 = true := by decide +kernel
theorem r_las_1 : lasChk 1 = true := by decide +kernel
theorem r_las_2 : lasChk 2 = true := by decide +kernel
end Go.Proofs.YtchkcnecgfolmaaGreatDoor.Ev
