/- What the listed variables hold behind their laying: closed facts by the kernel. -/
import Derived.Test.YtheflbaejhlboaaGreatDoorRows
import Derived.Test.YtheflbaejhlboaaGreatDoorGpTieA
namespace Go.Proofs.YtheflbaejhlboaaGreatDoor.gpTie
open Go.Proofs.Tryz
open Go
theorem read:∀ os tape,(DataW.laidRun prog (varsWorld prog 400 (varsId prog) os tape).memory 8 (laidL.map (·.1))).map (·.1)=some laidL:=fun _ _=>by kernel_rfl
theorem apart:∀ os tape,(DataW.laidRun prog (varsWorld prog 400 (varsId prog) os tape).memory 8 (laidL.map (·.1))).map (fun x=>decide x.2.Nodup && laidRowsB prog (varsWorld prog 400 (varsId prog) os tape).memory x.2)=some true:=fun _ _=>by kernel_rfl
end Go.Proofs.YtheflbaejhlboaaGreatDoor.gpTie
