/- The listed variables are laid by the program's text, and their laying ends: closed facts by the kernel. -/
import Derived.Test.YtheflbaejhlboaaGreatDoorRows
import Derived.LaidByTextLater
import Derived.Test.YtheflbaejhlboaaGreatDoorUnTieA
import Derived.SevenTiedAt
namespace Go.Proofs.YtheflbaejhlboaaGreatDoor.unTie
open Go
theorem fits:varsNamedLaterB Tryz.prog (varsId Tryz.prog) laidL=true:=by kernel_rfl
theorem done:∀ os tape,varsDone Tryz.prog 400 (varsId Tryz.prog) os tape=true:=fun _ _=>by kernel_rfl
end Go.Proofs.YtheflbaejhlboaaGreatDoor.unTie
