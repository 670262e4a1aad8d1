/- TopNested: for every input the law returns true, and each argument reads afterwards as it read before. No condition. -/
import Derived.Test.YtheflbaejhlboaaGreatDoorCards
import Derived.Test.YtheflbaejhlboaaGreatDoorNeTieB
import Derived.Test.YtheflbaejhlboaaGreatDoorNeTieC
import Derived.Test.YtheflbaejhlboaaGreatDoorNeWit
import Derived.Test.YtheflbaejhlboaaGreatDoorNeFactsC
import Derived.Test.YtheflbaejhlboaaGreatDoorTopNe22
set_option linter.unusedVariables false
set_option linter.unusedSimpArgs false
namespace Go.Proofs.YtheflbaejhlboaaGreatDoor.neTie
open Go
theorem tie:Tryz.prog.laidByTextLater laidL [.sentinel,.sentinel,.data,.data,.data] true :=
 Program.laidByTextLater_by_run 400 8 worded wordedNot rooted kinds named fits done read apart
theorem topNested_row_tie:Rows.topNestedRow.laidByTextAt .later Tryz.pinned [.sentinel,.sentinel,.data,.data,.data] true :=
 OpenClaim.laidByTextAt_later rfl rfl tie noOwn
end Go.Proofs.YtheflbaejhlboaaGreatDoor.neTie
namespace Go.Proofs.YtheflbaejhlboaaGreatDoor.topNestedDone
open Go.ChangeShapes Go.WideShapes Go.ChangeAt Go.RowKit
set_option maxRecDepth 100000 in
theorem contract (H:Type) (enc:TypeId×Value->H) (W:World) (base:Nat) (args:Array Value) (ds gs:List (DataW H)) (before:List MemPlace)
  (hval:∀ (j:Nat) t v,Tryz.f7.params[j]? = some t->args[j]? = some v->Value.okWide Tryz.prog W .any base t v)
  (hW:DataW.Whole enc Tryz.prog Tryz.f7.params.toList Rows.topNestedSpec.vars false W args.toList ds gs before) :
  Calls Tryz.prog 7 args W fun e W'=>∃ v,e = .returned v/\Rows.topNestedSpec.post enc Tryz.prog Tryz.f7 false true false false W args v W':=by
 have hW':=hW;obtain ⟨p,q,yw,hV,rfl,hfz,hnd⟩:=hW;have hA:DataW.TrodAll enc Tryz.prog W 0 (fun _=>true) true Tryz.f7.params.toList args.toList ds p:=yw;rw [Tryz.params7] at hA hval;obtain ⟨v0,vs0,d0,ds0,p0,q0,hargs,rfl,rfl,h0,r0⟩:=trodAll_cons hA;obtain ⟨rfl,rfl,rfl⟩:=trodAll_nil r0;obtain rfl:args = #[v0]:=by cases args; simp_all
 obtain ⟨rfl,rfl⟩:=trodVars_none hV;obtain ⟨A0,n0,c0,rfl⟩:=okWide_slice Tryz.underlying29 (hval 0 29 v0 rfl rfl);have k0:=h0;have IX:∀ x∈p0,x.block<W.heap.size:=by obtain ⟨m,hm⟩:=k0; exact DataW.trod_lt m _ _ _ hm
 obtain ⟨fu0,hf0⟩:=h0;obtain ⟨A0',n0',c0',IY,IZ⟩:=ZaZ Tryz.underlying29 ⟨Tryz.underlying41,by kernel_rfl,rfl,rfl,rfl,by kernel_rfl,by kernel_rfl,by kernel_rfl⟩ Tryz.underlying9 Tryz.underlying39 Tryz.underlying4 ⟨Tryz.underlying55,by kernel_rfl,rfl,rfl,rfl,by kernel_rfl,by kernel_rfl,by kernel_rfl⟩ Tryz.underlying3 Tryz.underlying2 Tryz.underlying9 (v := .slice A0 n0 c0) (er:=4) hf0;injection IY with e1 e2 e3; subst e1; subst e2; subst e3
 clear yw hval;refine (Ev.ZfB Ev.Dx IZ).mono fun e W' ⟨he,ae⟩ => ?_;have yz:Below W.heap.size W W':=ae.below (Nat.le_refl _) (fun _ _ h=>h);subst he;exact ⟨_,rfl,_,_,_,[],_,[],hW',trodAll_mk1 (shut_bool Tryz.underlying4 _),(trodAll_cons_mk (Below.trod neFacts.laidOut_is (by kernel_rfl) (of_decide_eq_true (by kernel_rfl)) k0 yz IX) trodAll_mk0),rfl,yz.frame _,fun h=>by cases h⟩
set_option maxRecDepth 100000 in
theorem lifted (os:Os) (started:os.Started) (H:Type) (enc:TypeId×Value->H) (F:Stop.Interp) :
  ReturnsInHanded {} Tryz.checked os 7 .any ((OpenSpec.ofChange Rows.topNestedSpec).preRow enc Tryz.prog Tryz.f7 Rows.topNestedRow.domain false Rows.topNestedRow.laid) (((OpenSpec.ofChange Rows.topNestedSpec).at F).post enc Tryz.prog Tryz.f7 false true false false):=by
 refine returnsInHanded_of_row (C:=Tryz.checked) (s:=OpenSpec.ofChange Rows.topNestedSpec) own started noInit Tryz.func7
  (witness_row_at (enc:=enc) (C:=Tryz.checked) false (laidWorld os) #[.slice none 0 0] rfl (shaped0 os) (shaped1 os) (okIn os)
   (OpenSpec.preRow_of_cond 8 (reads os enc) conds (fun k hk=>by cases hk) (sized os enc) (laid_met os))) ?_
 intro W base args ds gs before hval hW _ _ _ hL _ _;exact contract H enc W base args ds gs before hval hW
theorem closed:joinedFacts Tryz.pinned.checked.prog 7 Tryz.f7 (OpenSpec.ofChange Rows.topNestedSpec).bare Rows.topNestedRow=true:=by
 have e:Tryz.pinned.checked.prog=Tryz.prog:=by kernel_rfl
 rw [e];exact neFacts.closed
theorem said:Rows.TopNestedSaid :=
 OpenClaim.holds_of_cond 7 Tryz.f7 rfl rfl rfl rfl rfl rfl rfl ⟨rfl,rfl,rfl,rfl,rfl⟩ rfl rfl rfl rfl rfl fname Tryz.func7 closed
  (of_decide_eq_true instB) wrapB
  (fun os started H enc _ F=>by rw [OpenClaim.pre_eq_preRow]; exact lifted os started H enc F)
theorem plain (f:FuncId) (fn:Func) (hf:Tryz.pinned.checked.prog.funcNamed Rows.topNestedRow.func=some f) (hfn:Tryz.pinned.checked.prog.funcs[f]? = some fn) :
  true=Tryz.pinned.checked.prog.looks []/\∀ (j:Nat) t,fn.params[j]? = some t->Tryz.pinned.checked.prog.wantsStandIn t=false:=by
 have e1:f=7:=(Option.some.inj (fname.symm.trans hf)).symm;subst e1;have e2:fn=Tryz.f7:=(Option.some.inj (Tryz.func7.symm.trans hfn)).symm;subst e2;refine ⟨jW,fun j t ht => ?_⟩;rw [Tryz.params7] at ht;have e3:t=29:=by have:=Array.mem_of_getElem? ht; simpa using this
 subst e3;exact standB
theorem goesB:false=Rows.topNestedRow.goesBy Tryz.prog:=by
 have h:Tryz.prog.goesFrom Rows.topNestedRow.func=false:=by
  unfold Program.goesFrom;rw [fname,Option.any_some,neFacts.goes_is]
 unfold OpenClaim.goesBy Program.goesAt;rw [h];rfl
theorem proved:Rows.TopNestedCardSaid :=
 Claim7.holds_tied_plain_at .later [] _ _ _ _ said (fun _ h=>by cases h) wfB (fun _ h=>by cases h) neTie.topNested_row_tie rfl ⟨rfl,rfl⟩ mainB rfl plain goesB
#print axioms proved
end Go.Proofs.YtheflbaejhlboaaGreatDoor.topNestedDone
