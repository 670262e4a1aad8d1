/- The program's words on the listed variables: closed facts by the kernel, each a theorem of its own (together they pass the memory that one process has). -/
import Derived.Test.YtheflbaejhlboaaGreatDoorRows
import Derived.LaidByTextLater
import Derived.SevenTiedAt
namespace Go.Proofs.YtheflbaejhlboaaGreatDoor.gpTie
open Go.Proofs.Tryz
open Go
def laidL:List (String×DataW Unit):=[("strconv.ErrSyntax",Rows.laid_strconv_ErrSyntax),("strconv.ErrRange",Rows.laid_strconv_ErrRange),("internal/strconv.uint64pow10",Rows.laid_internal_strconv_uint64pow10),("math/bits.deBruijn32tab",Rows.laid_math_bits_deBruijn32tab),("math/bits.deBruijn64tab",Rows.laid_math_bits_deBruijn64tab)]
theorem noOwn:Tryz.pinned.checked.prog.headLifts.contains "ownunsafe"=false:=by kernel_rfl
theorem worded:prog.worded (varsWordLater true)=true:=by kernel_rfl
theorem wordedNot:prog.worded (varsWordLater !true)=false:=by kernel_rfl
theorem rooted:prog.worded rootWordLater=true:=by kernel_rfl
theorem kinds:laidL.map (fun x=>prog.kindOfLater x.1)=[LaidKind.sentinel,.sentinel,.data,.data,.data].map some:=by kernel_rfl
theorem named:(prog.funcNamed "gosem.cut.vars").isSome=true:=by kernel_rfl
end Go.Proofs.YtheflbaejhlboaaGreatDoor.gpTie
