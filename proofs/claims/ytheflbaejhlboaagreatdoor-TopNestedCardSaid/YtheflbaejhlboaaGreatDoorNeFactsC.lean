/- TopNested's row: the closed facts together. -/
import Derived.Test.YtheflbaejhlboaaGreatDoorNeFactsB
set_option linter.unusedVariables false
set_option linter.unusedSimpArgs false
namespace Go.Proofs.YtheflbaejhlboaaGreatDoor.neFacts
open Go.Proofs.Tryz
open Go
set_option maxRecDepth 100000
theorem ng:(fun (P:Program) (f:FuncId) (fn:Func) (s:ChangeSpec) (c:OpenClaim)=>(c.wf (OpenSpec.ofChange s):Bool)) prog 7 Tryz.f7 (OpenSpec.ofChange Rows.topNestedSpec).bare Rows.topNestedRow=true:=by kernel_rfl
theorem ni:(fun (P:Program) (f:FuncId) (fn:Func) (s:ChangeSpec) (c:OpenClaim)=>(laidOutB P:Bool)) prog 7 Tryz.f7 (OpenSpec.ofChange Rows.topNestedSpec).bare Rows.topNestedRow=true:=laidOut_is
theorem fact2:(fun (P:Program) (f:FuncId) (fn:Func) (s:ChangeSpec) (c:OpenClaim)=>(mapsRowed P:Bool)) prog 7 Tryz.f7 (OpenSpec.ofChange Rows.topNestedSpec).bare Rows.topNestedRow=true:=by kernel_rfl
theorem fact3:(fun (P:Program) (f:FuncId) (fn:Func) (s:ChangeSpec) (c:OpenClaim)=>(fn.params.all (P.readableRec ·):Bool)) prog 7 Tryz.f7 (OpenSpec.ofChange Rows.topNestedSpec).bare Rows.topNestedRow=true:=by kernel_rfl
theorem fact4:(fun (P:Program) (f:FuncId) (fn:Func) (s:ChangeSpec) (c:OpenClaim)=>(namedTie P c.named s.vars:Bool)) prog 7 Tryz.f7 (OpenSpec.ofChange Rows.topNestedSpec).bare Rows.topNestedRow=true:=by kernel_rfl
theorem fact5:(fun (P:Program) (f:FuncId) (fn:Func) (s:ChangeSpec) (c:OpenClaim)=>((c.stops==[]):Bool)) prog 7 Tryz.f7 (OpenSpec.ofChange Rows.topNestedSpec).bare Rows.topNestedRow=true:=by kernel_rfl
theorem fact6:(fun (P:Program) (f:FuncId) (fn:Func) (s:ChangeSpec) (c:OpenClaim)=>((P.stops==[]):Bool)) prog 7 Tryz.f7 (OpenSpec.ofChange Rows.topNestedSpec).bare Rows.topNestedRow=true:=by kernel_rfl
theorem fact7:(fun (P:Program) (f:FuncId) (fn:Func) (s:ChangeSpec) (c:OpenClaim)=>((c.knobs==[]):Bool)) prog 7 Tryz.f7 (OpenSpec.ofChange Rows.topNestedSpec).bare Rows.topNestedRow=true:=by kernel_rfl
theorem fact8:(fun (P:Program) (f:FuncId) (fn:Func) (s:ChangeSpec) (c:OpenClaim)=>((P.stopKnobs==[]):Bool)) prog 7 Tryz.f7 (OpenSpec.ofChange Rows.topNestedSpec).bare Rows.topNestedRow=true:=by kernel_rfl
theorem fact9:(fun (P:Program) (f:FuncId) (fn:Func) (s:ChangeSpec) (c:OpenClaim)=>((c.inPlace==P.inPlace f):Bool)) prog 7 Tryz.f7 (OpenSpec.ofChange Rows.topNestedSpec).bare Rows.topNestedRow=true:=by
 show (Rows.topNestedRow.inPlace==prog.inPlace 7)=true;rw [inPlace_is]
 kernel_rfl
theorem fact10:(fun (P:Program) (f:FuncId) (fn:Func) (s:ChangeSpec) (c:OpenClaim)=>((c.unfollowed==P.unfollowed f):Bool)) prog 7 Tryz.f7 (OpenSpec.ofChange Rows.topNestedSpec).bare Rows.topNestedRow=true:=by
 show (Rows.topNestedRow.unfollowed==prog.unfollowed 7)=true;rw [unfollowed_is]
 kernel_rfl
theorem fact11:(fun (P:Program) (f:FuncId) (fn:Func) (s:ChangeSpec) (c:OpenClaim)=>((c.recurses==P.recurses f):Bool)) prog 7 Tryz.f7 (OpenSpec.ofChange Rows.topNestedSpec).bare Rows.topNestedRow=true:=by
 show (Rows.topNestedRow.recurses==prog.recurses 7)=true;rw [recurses_is]
 kernel_rfl
theorem fact12:(fun (P:Program) (f:FuncId) (fn:Func) (s:ChangeSpec) (c:OpenClaim)=>((c.named==P.varsNamed f):Bool)) prog 7 Tryz.f7 (OpenSpec.ofChange Rows.topNestedSpec).bare Rows.topNestedRow=true:=by
 show (Rows.topNestedRow.named==prog.varsNamed 7)=true;rw [varsNamed_is]
 kernel_rfl
theorem fact13:(fun (P:Program) (f:FuncId) (fn:Func) (s:ChangeSpec) (c:OpenClaim)=>((c.maps==(fn.params.toList++s.plain.varTypes P).any (P.mapsRec ·)):Bool)) prog 7 Tryz.f7 (OpenSpec.ofChange Rows.topNestedSpec).bare Rows.topNestedRow=true:=by kernel_rfl
theorem fact14:(fun (P:Program) (f:FuncId) (fn:Func) (s:ChangeSpec) (c:OpenClaim)=>((c.ifaces==(fn.params.toList++s.plain.varTypes P).any (P.ifacesRec ·)):Bool)) prog 7 Tryz.f7 (OpenSpec.ofChange Rows.topNestedSpec).bare Rows.topNestedRow=true:=by kernel_rfl
theorem fact15:(fun (P:Program) (f:FuncId) (fn:Func) (s:ChangeSpec) (c:OpenClaim)=>((c.mapsOut==P.mapsAmong fn.resultTypes.toList):Bool)) prog 7 Tryz.f7 (OpenSpec.ofChange Rows.topNestedSpec).bare Rows.topNestedRow=true:=by kernel_rfl
theorem fact16:(fun (P:Program) (f:FuncId) (fn:Func) (s:ChangeSpec) (c:OpenClaim)=>((c.loops==(fn.params.toList++s.plain.varTypes P).any (P.loopsFrom ·)):Bool)) prog 7 Tryz.f7 (OpenSpec.ofChange Rows.topNestedSpec).bare Rows.topNestedRow=true:=by kernel_rfl
theorem fact17:(fun (P:Program) (f:FuncId) (fn:Func) (s:ChangeSpec) (c:OpenClaim)=>((c.wideKeys==(fn.params.toList++s.plain.varTypes P++fn.resultTypes.toList).any (P.wideKeysFrom ·)):Bool)) prog 7 Tryz.f7 (OpenSpec.ofChange Rows.topNestedSpec).bare Rows.topNestedRow=true:=by kernel_rfl
theorem fact18:(fun (P:Program) (f:FuncId) (fn:Func) (s:ChangeSpec) (c:OpenClaim)=>(s.vars.all (P.varReadable ·):Bool)) prog 7 Tryz.f7 (OpenSpec.ofChange Rows.topNestedSpec).bare Rows.topNestedRow=true:=by kernel_rfl
theorem fact19:(fun (P:Program) (f:FuncId) (fn:Func) (s:ChangeSpec) (c:OpenClaim)=>(fn.resultTypes.all (fun t=>P.readableRec t && decide (t<P.types.size)):Bool)) prog 7 Tryz.f7 (OpenSpec.ofChange Rows.topNestedSpec).bare Rows.topNestedRow=true:=by kernel_rfl
theorem fact20:(fun (P:Program) (f:FuncId) (fn:Func) (s:ChangeSpec) (c:OpenClaim)=>((c.ifacesOut==fn.resultTypes.toList.any (P.ifacesRec ·)):Bool)) prog 7 Tryz.f7 (OpenSpec.ofChange Rows.topNestedSpec).bare Rows.topNestedRow=true:=by kernel_rfl
theorem fact21:(fun (P:Program) (f:FuncId) (fn:Func) (s:ChangeSpec) (c:OpenClaim)=>((c.loopsOut==fn.resultTypes.toList.any (P.loopsFrom ·)):Bool)) prog 7 Tryz.f7 (OpenSpec.ofChange Rows.topNestedSpec).bare Rows.topNestedRow=true:=by kernel_rfl
theorem fact22:(fun (P:Program) (f:FuncId) (fn:Func) (s:ChangeSpec) (c:OpenClaim)=>((c.plainKeys==P.plainKeys):Bool)) prog 7 Tryz.f7 (OpenSpec.ofChange Rows.topNestedSpec).bare Rows.topNestedRow=true:=by kernel_rfl
theorem fact23:(fun (P:Program) (f:FuncId) (fn:Func) (s:ChangeSpec) (c:OpenClaim)=>(c.shortTexts.isNone:Bool)) prog 7 Tryz.f7 (OpenSpec.ofChange Rows.topNestedSpec).bare Rows.topNestedRow=true:=by kernel_rfl
theorem fact24:(fun (P:Program) (f:FuncId) (fn:Func) (s:ChangeSpec) (c:OpenClaim)=>(P.stopsHeard:Bool)) prog 7 Tryz.f7 (OpenSpec.ofChange Rows.topNestedSpec).bare Rows.topNestedRow=true:=by kernel_rfl
theorem fact25:(fun (P:Program) (f:FuncId) (fn:Func) (s:ChangeSpec) (c:OpenClaim)=>(P.mayEnter:Bool)) prog 7 Tryz.f7 (OpenSpec.ofChange Rows.topNestedSpec).bare Rows.topNestedRow=true:=by kernel_rfl
theorem fact26:(fun (P:Program) (f:FuncId) (fn:Func) (s:ChangeSpec) (c:OpenClaim)=>((c.lifted==P.liftsFinal):Bool)) prog 7 Tryz.f7 (OpenSpec.ofChange Rows.topNestedSpec).bare Rows.topNestedRow=true:=by kernel_rfl
theorem fact27:(fun (P:Program) (f:FuncId) (fn:Func) (s:ChangeSpec) (c:OpenClaim)=>((P.make==some c.make):Bool)) prog 7 Tryz.f7 (OpenSpec.ofChange Rows.topNestedSpec).bare Rows.topNestedRow=true:=by kernel_rfl
theorem fact28:(fun (P:Program) (f:FuncId) (fn:Func) (s:ChangeSpec) (c:OpenClaim)=>((c.kinds==(if c.domain.isEmpty then [] else fn.params.toList.map fun t=>match P.underlying t with | some (.int k)=>some k | _=>none)):Bool)) prog 7 Tryz.f7 (OpenSpec.ofChange Rows.topNestedSpec).bare Rows.topNestedRow=true:=by kernel_rfl
theorem fact29:(fun (P:Program) (f:FuncId) (fn:Func) (s:ChangeSpec) (c:OpenClaim)=>((c.pinned==c.pinnedBy):Bool)) prog 7 Tryz.f7 (OpenSpec.ofChange Rows.topNestedSpec).bare Rows.topNestedRow=true:=by kernel_rfl
theorem fact30:(fun (P:Program) (f:FuncId) (fn:Func) (s:ChangeSpec) (c:OpenClaim)=>((c.veiled==(fn.params.toList++s.plain.varTypes P++fn.resultTypes.toList).any (P.veiledRec ·)):Bool)) prog 7 Tryz.f7 (OpenSpec.ofChange Rows.topNestedSpec).bare Rows.topNestedRow=true:=by kernel_rfl
theorem fact31:(fun (P:Program) (f:FuncId) (fn:Func) (s:ChangeSpec) (c:OpenClaim)=>(c.veiledFits P fn.params.toList (fn.params.toList++s.plain.varTypes P++fn.resultTypes.toList):Bool)) prog 7 Tryz.f7 (OpenSpec.ofChange Rows.topNestedSpec).bare Rows.topNestedRow=true:=by kernel_rfl
theorem closed:joinedFacts prog 7 Tryz.f7 (OpenSpec.ofChange Rows.topNestedSpec).bare Rows.topNestedRow=true:=by
 unfold joinedFacts;simp only [Bool.and_eq_true];exact ⟨⟨⟨⟨⟨⟨⟨⟨⟨⟨⟨⟨⟨⟨⟨⟨⟨⟨⟨⟨⟨⟨⟨⟨⟨⟨⟨⟨⟨⟨⟨ng,ni⟩,fact2⟩,fact3⟩,fact4⟩,fact5⟩,fact6⟩,fact7⟩,fact8⟩,fact9⟩,fact10⟩,fact11⟩,fact12⟩,fact13⟩,fact14⟩,fact15⟩,fact16⟩,fact17⟩,fact18⟩,fact19⟩,fact20⟩,fact21⟩,fact22⟩,fact23⟩,fact24⟩,fact25⟩,fact26⟩,fact27⟩,fact28⟩,fact29⟩,fact30⟩,fact31⟩
end Go.Proofs.YtheflbaejhlboaaGreatDoor.neFacts
