/-
  The run in the large: entries of TopOver's run, in a table. No condition of ours.
-/
import Derived.Test.YtchkcnecgfolmaaGreatDoorTopV0
import Derived.Test.YtchkcnecgfolmaaGreatDoorTopV1
import Derived.Test.YtchkcnecgfolmaaGreatDoorTopV2
import Derived.Test.YtchkcnecgfolmaaGreatDoorTopV3
import Derived.Test.YtchkcnecgfolmaaGreatDoorTopV4
import Derived.Test.YtchkcnecgfolmaaGreatDoorTopV5
import Derived.Test.YtchkcnecgfolmaaGreatDoorTopV6
namespace Go.Proofs.YtchkcnecgfolmaaGreatDoor.Ev
open Go Go.Proofs
set_option maxRecDepth 1000000
set_option linter.unusedVariables false
set_option linter.unusedSectionVars false
noncomputable def SL : List (Nat × Orc) := [(68, tabO [ s0, s1, s2, s3, s4, s5, s6, s7, s8, s9, s10, s11, s12, s13])]
noncomputable def BS : Base := { fn := fun f => fnT.get f, keep := keepT, reg := fun _ _ => none, orc := fun f => (putL (OL ++ (PL ++ SL)) .lf).get f }
end Go.Proofs.YtchkcnecgfolmaaGreatDoor.Ev
