/- TopNested's row, closed facts by the kernel: what follows of what the call can come to. -/
import Derived.Test.YtheflbaejhlboaaGreatDoorNeFactsA
import GoSem.ClaimGoes
namespace Go.Proofs.YtheflbaejhlboaaGreatDoor.neFacts
open Go.Proofs.Tryz
open Go
set_option maxRecDepth 100000
theorem inp:reachL.filterMap (fun g=>(prog.funcs[g]?).bind fun fn=>if fn.ours || fn.body.isNone || fn.name== "runtime.NumGoroutine" then some fn.name else none)=["slices.overlaps[confluence/eval.Table]","internal/bytealg.IndexByteString","internal/abi.NoEscape","internal/bytealg.MakeNoZero","math.archTrunc","math.Float64bits","math.Float64frombits","maps.clone","math/bits.Sub64","math/bits.Add64"]:=by kernel_rfl
theorem glob:reachL.flatMap (fun g=>((prog.funcs[g]?).bind (·.body)).elim [] Code.globalsNamed)=[3,4,1,5,6]:=by kernel_rfl
theorem rd:reachL.filterMap (fun g=>(prog.funcs[g]?).bind fun fn=>if fn.body.isNone then entryReads.lookup fn.name else none)=[]:=by kernel_rfl
theorem I4:((prog.funcs[93]?).any fun fn=>match fn.body with | some c=>c.unfollowed | none=>entryCalls fn)=true:=by kernel_rfl
theorem inU:reachL.contains 93=true:=by kernel_rfl
theorem inPlace_is:prog.inPlace 7=["slices.overlaps[confluence/eval.Table]","internal/bytealg.IndexByteString","internal/abi.NoEscape","internal/bytealg.MakeNoZero","math.archTrunc","math.Float64bits","math.Float64frombits","maps.clone","math/bits.Sub64","math/bits.Add64"]:=by
 unfold Program.inPlace;rw [closure_is];exact inp
theorem unfollowed_is:prog.unfollowed 7=true:=by
 unfold Program.unfollowed;rw [closure_is,List.any_eq_true];exact ⟨93,List.contains_iff_mem.1 inU,I4⟩
theorem recurses_is:prog.recurses 7=true:=by
 unfold Program.recurses;rw [unfollowed_is];rfl
theorem vars:(List.filterMap (β := String) (fun (g:Nat)=>(prog.globals[g]?).map fun v=>v.name) (([3,4,1,5,6]:List Nat).eraseDups)++([]:List String)).eraseDups=["strconv.ErrSyntax","strconv.ErrRange","internal/strconv.uint64pow10","math/bits.deBruijn32tab","math/bits.deBruijn64tab"]:=by kernel_rfl
theorem varsNamed_is:prog.varsNamed 7=["strconv.ErrSyntax","strconv.ErrRange","internal/strconv.uint64pow10","math/bits.deBruijn32tab","math/bits.deBruijn64tab"]:=by
 unfold Program.varsNamed;rw [closure_is,glob,rd];exact vars
theorem gl:prog.globals.all (fun g=>decide (g.type<prog.types.size))=true:=by kernel_rfl
theorem fl:prog.funcs.all (fun f=>f.params.all fun t=>decide (t<prog.types.size))=true:=by kernel_rfl
theorem ty0:(List.range' 0 250).all (rowFine prog)=true:=by kernel_rfl
theorem ty1:(List.range' 250 250).all (rowFine prog)=true:=by kernel_rfl
theorem ty2:(List.range' 500 249).all (rowFine prog)=true:=by kernel_rfl
theorem tys:prog.types.size=749:=by kernel_rfl
theorem tya:(List.range prog.types.size).all (rowFine prog)=true:=by
 have e:List.range 749=List.range' 0 250++(List.range' 250 250++List.range' 500 249):=by kernel_rfl
 rw [tys,e,List.all_append,List.all_append,ty0,ty1,ty2];rfl
theorem laidOut_is:laidOutB prog=true:=by
 unfold laidOutB;rw [tya,gl,fl];rfl
theorem nogo:prog.funcs.toList.any Func.goes=false:=by kernel_rfl
theorem goes_is:prog.goes 7=false:=by
 have h1:prog.funcs.any Func.goes=false:=by rw [<- Array.any_toList]; exact nogo
 unfold Program.goes;rw [h1,Bool.and_false,Bool.or_false,List.any_eq_false];intro g _ h;have h2:=nogo;cases e:prog.funcs[g]? with
 | none=>rw [e] at h; cases h
 | some fn =>
  rw [e,Option.any_some] at h;rw [List.any_eq_false] at h2;exact h2 fn (Array.mem_toList_iff.2 (Array.mem_of_getElem? e)) h
end Go.Proofs.YtheflbaejhlboaaGreatDoor.neFacts
