/- The listed variables are laid by the program's text, and their laying ends: closed facts by the kernel. -/
import Derived.Test.YtheflbaejhlboaaGreatDoorRows
import Derived.Test.YtheflbaejhlboaaGreatDoorGpTieA
namespace Go.Proofs.YtheflbaejhlboaaGreatDoor.gpTie
open Go.Proofs.Tryz
open Go
theorem fits:varsNamedLaterB prog (varsId prog) laidL=true:=by kernel_rfl
theorem done:∀ os tape,varsDone prog 400 (varsId prog) os tape=true:=fun _ _=>by kernel_rfl
end Go.Proofs.YtheflbaejhlboaaGreatDoor.gpTie
