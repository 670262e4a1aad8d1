/- TopGroups's row: a start that fits it, and the closed facts of the card that ask nothing great. -/
import Derived.Test.YtheflbaejhlboaaGreatDoorCards
import Derived.ChangeOld
import Derived.WalkKit
import Derived.ProofKit
import Derived.Deep.DeepHandedRow
import Derived.JoinedCond
import Derived.SevenTiedAt
import Derived.MakeChecks
set_option linter.unusedVariables false
set_option linter.unusedSimpArgs false
namespace Go.Proofs.YtheflbaejhlboaaGreatDoor.topGroupsDone
open Go.Proofs.Tryz
open Go Go.ChangeShapes Go.WideShapes Go.ChangeAt Go.RowKit
set_option maxRecDepth 100000
noncomputable def laidHeap (h:Array Obj):Array Obj :=
 let lay (h:Array Obj) (g:Nat) (cs:Array Value):Array Obj:=h.modify g fun
  | .cells _ t frozen => .cells cs t frozen
  | o=>o
 let u8 (l:List Nat):Array Value:=(l.map fun (n:Nat)=>Value.int .u8 (n:Int)).toArray
 let n:=h.size
 let h:=lay h 3 #[.iface 723 (.pointer (some ⟨n,0,none⟩))]
 let h:=lay h 4 #[.iface 723 (.pointer (some ⟨n+1,0,none⟩))]
 let h:=lay h 1 ((List.range 20).map fun (k:Nat)=>Value.int .u64 ((10^k:Nat):Int)).toArray
 let h:=lay h 5 (u8 [0,1,28,2,29,14,24,3,30,22,20,15,25,17,4,8,31,27,13,23,21,19,16,7,26,12,18,6,11,5,10,9])
 let h:=lay h 6 (u8 [0,1,56,2,57,49,28,3,61,58,42,50,38,29,17,4,62,47,59,36,45,43,51,22,53,39,33,30,24,18,12,5,63,55,48,27,60,41,37,16,46,35,44,21,52,32,23,11,54,26,40,15,34,20,31,10,25,14,19,9,13,8,7,6])
 (h.push (.cells #[.string ⟨#[105,110,118,97,108,105,100,32,115,121,110,116,97,120]⟩] 725 (0,0))).push (.cells #[.string ⟨#[118,97,108,117,101,32,111,117,116,32,111,102,32,114,97,110,103,101]⟩] 725 (0,0))
noncomputable def laidWorld (os:Os):World :=
 { World.holding prog os ⟨#[],#[],[]⟩ with heap:=laidHeap (World.holding prog os ⟨#[],#[],[]⟩).heap }
noncomputable def startW (os:Os):World:=((laidWorld os).forCall (fun _ _=>0) ⟨#[],#[.slice none 0 0],[]⟩)
theorem names_are:(Rows.topGroupsRow.laid.map (·.1))=["strconv.ErrSyntax","strconv.ErrRange","internal/strconv.uint64pow10","math/bits.deBruijn32tab","math/bits.deBruijn64tab"]:=by kernel_rfl
theorem met0 (os:Os):(DataW.laidRun prog (startW os).memory 8 (Rows.topGroupsRow.laid.map (·.1))).map (·.1)=some Rows.topGroupsRow.laid:=by kernel_rfl
theorem met1 (os:Os):(DataW.laidRun prog (startW os).memory 8 (Rows.topGroupsRow.laid.map (·.1))).map (fun x=>decide x.2.Nodup && laidRowsB prog (startW os).memory x.2)=some true:=by kernel_rfl
theorem plainH:(Rows.topGroupsRow.laid.all fun x=>x.2.handleName?.isNone)=true:=by kernel_rfl
theorem laid_met (os:Os):laidMetH prog Rows.topGroupsRow.laid (startW os).memory:=by
 rw [MakeChecks.laidMetH_plain _ _ _ plainH];exact laidMet_of_run' 8 (met0 os) (met1 os)
theorem reads (os:Os) {H:Type} (enc:TypeId×Value->H):DataW.whole enc prog (startW os).memory Tryz.f5.params.toList Rows.topGroupsSpec.vars false (#[.slice none 0 0]:Array Value).toList 8=some ([.nil],[],[]):=by kernel_rfl
theorem own:ownKnob prog.godebug=none:=by kernel_rfl
theorem noInit:prog.inits.idxOf? 5=none:=by kernel_rfl
theorem shaped0 (os:Os):(startW os).variablesB prog=true:=by kernel_rfl
theorem shaped1 (os:Os):((startW os).heap.toList.drop prog.globals.size).take ((begin prog (fun _ _=>0) default).world.heap.size-prog.globals.size) =
   (begin prog (fun _ _=>0) default).world.heap.toList.drop prog.globals.size:=by kernel_rfl
theorem okIn (os:Os):Input.okWideB prog (startW os) 5 ⟨#[],#[.slice none 0 0],[]⟩=true:=by kernel_rfl
theorem conds {H:Type}:(Rows.topGroupsRow.domain).all (PathCond.test prog ⟨Tryz.f5.params.toList,([.nil]:List (DataW H)),Rows.topGroupsSpec.plain.varTypes prog,[]⟩)=true:=by kernel_rfl
theorem sized (os:Os) {H:Type} (enc:TypeId×Value->H):(OpenSpec.ofChange Rows.topGroupsSpec).bare.sizedB enc prog Tryz.f5 false (startW os).memory #[.slice none 0 0] 8=true:=by kernel_rfl
theorem fname:prog.funcNamed Rows.topGroupsRow.func=some 5:=by kernel_rfl
theorem instB:decide (Tryz.f5.isInstance prog Rows.topGroupsRow.origin Rows.topGroupsRow.targs)=true:=by kernel_rfl
theorem wrapB:Tryz.f5.isWrapper prog Rows.topGroupsRow.wrapper Rows.topGroupsRow.mainSum:=by
 unfold Func.isWrapper; first | (rw [if_pos (by decide +kernel)]; kernel_rfl) | (rw [if_neg (by decide +kernel)]; exact ⟨rfl,rfl⟩)
theorem wfB:Rows.topGroupsRow.wfByText (OpenSpec.ofChange Rows.topGroupsSpec)=true:=by kernel_rfl
theorem jR:true=prog.looks []:=by kernel_rfl
theorem standB:prog.wantsStandIn 29=false:=by kernel_rfl
theorem mainB:prog.mainIs=some (true,"b74a03b96547bcd5c1bca2e8e24647209e9cd37ba26cc43c05b552e96a11e4fd".toList):=by kernel_rfl
end Go.Proofs.YtheflbaejhlboaaGreatDoor.topGroupsDone
