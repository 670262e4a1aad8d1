/-
  The run in the large: rounds of TopDistinct's loop, by the kernel. No condition of ours.
-/
import Derived.Test.YtchkcnecgfolmaaGreatDoorDisLoopA
namespace Go.Proofs.YtchkcnecgfolmaaGreatDoor.Ev
open Go Go.Proofs
set_option maxRecDepth 1000000
theorem r_tak_18_2 : takChk 18 2 = true := by decide +kernel
theorem r_tak_19_0 : takChk 19 0 = true := by decide +kernel
theorem r_tak_19_1 : takChk 19 1 = true := by decide +kernel
theorem r_tak_19_2 : takChk 19 2 = true := by decide +kernel
theorem r_tak_20_0 : takChk 20 0 = true := by decide +kernel
theorem r_tak_20_1 : takChk 20 1 = true := by decide +kernel
theorem r_tak_20_2 : takChk 20 2 = true := by decide +kernel
theorem r_tak_21_0 : takChk 21 0 = true := by decide +kernel
theorem r_tak_21_1 : takChk 21 1 = true := by decide +kernel
theorem r_tak_21_2 : takChk 21 2 = true := by decide +kernel
end Go.Proofs.YtchkcnecgfolmaaGreatDoor.Ev
