/- A part of the proof of a law of package confluencetop: lemmas, no condition of ours. -/
import Derived.Deep.RegionHeld3
import Derived.Test.YtheflbaejhlboaaGreatDoorTopUn2
set_option linter.unusedVariables false
set_option linter.unusedSectionVars false
set_option linter.unusedSimpArgs false
namespace Go.Proofs.YtheflbaejhlboaaGreatDoor
open Go
section
variable {P:Program} {ops:Array Oper} {Q:Exit→Act→World→Prop} {md:Region.Mode} {S:World→Prop} {I:List Nat}
def Wn (md:Region.Mode) (ops:Array Oper) (I:List Nat) (j:Nat):Bool :=
 match ops[j]? with
 | none=>false
 | some o=>I.all fun k=>o.after.any fun e=>Region.binds md e && e.on==k
theorem Hp {i j:Nat} {oj:Oper} (hj:ops[j]? = some oj) (hi:i∈I) (hno:∀ e∈oj.after,Region.binds md e=true→e.on≠i):Wn md ops I j=false:=by
 cases h:Wn md ops I j with
 | false=>rfl
 | true =>
  unfold Wn at h
  rw [hj] at h
  have h1:=List.all_eq_true.1 h i hi
  obtain ⟨e,he,h2⟩:=Array.any_eq_true'.1 h1
  simp only [Bool.and_eq_true,beq_iff_eq] at h2
  exact absurd h2.2 (hno e he h2.1)
def JY (P:Program) (md:Region.Mode) (ops:Array Oper) (Q:Exit→Act→World→Prop) (S:World→Prop) (I:List Nat):Nat→Array Bool→Act→World→Prop
 | 0,listed,a,w=>Region.ready md ops listed=[]∧Q .normal a w
 | fuel+1,listed,a,w =>
  (Region.ready md ops listed=[]→Q .normal a w) ∧
  ∀ i∈Region.ready md ops listed,wpOp P ops Q i (fun a' w'=>(Wn md ops I i=false→S w→S w')∧JY P md ops Q S I fuel (listed.setIfInBounds i true) a' w') a w
theorem Me:∀ (fuel:Nat) (listed:Array Bool) (a:Act) (w:World),JY P md ops Q S I fuel listed a w→wpAny P md ops Q fuel listed a w
 | 0,_,_,_,h=>h
 | fuel+1,_,_,_,h=>⟨h.1,fun i hi=>wpOp_mono (fun a' w' h'=>Me fuel _ a' w' h'.2) (h.2 i hi)⟩
theorem Tt {S0:World→Prop} {i:Nat} {oi:Oper} {v:Value} (hI:(i∈I∧S0=S)∨S0=fun _=>True) (hi:ops[i]? = some oi) (hsel:∀ (j:Nat) (o:Oper) cs b,ops[j]? = some o→o.op ≠ .select cs b)
  (hQ:∀ c a w,Q (.panic c) (a.put oi.dst v) w→Q (.panic c) a w) :
  ∀ (fuel:Nat) (listed:Array Bool) (a:Act) (w:World),
   (∀ j oj,ops[j]? = some oj→j≠i→listed.getD j true=false→(∀ e∈oj.after,Region.binds md e=true→e.on≠i)→oi.apart ops oj=true) →
   i∈Region.ready md ops listed→YieldsIf P ops S0 oi v a→S0 w →
   JY P md ops Q S I fuel (listed.setIfInBounds i true) (a.put oi.dst v) w→JY P md ops Q S I (fuel+1) listed a w:=by
 intro fuel
 induction fuel with
 | zero =>
  intro listed a w _ hr hy hS H
  refine ⟨fun h=>(by rw [h] at hr; cases hr),fun j hj => ?_⟩
  by_cases hji:j=i
  ·subst hji; exact hy.wpOp hi hS ⟨fun _ h=>h,H⟩
  ·have:=ready_mono hj hji
   rw [H.1] at this
   cases this
 | succ fuel ih =>
  intro listed a w hfree hr hy hS H
  refine ⟨fun h=>(by rw [h] at hr; cases hr),fun j hj => ?_⟩
  by_cases hji:j=i
  ·subst hji; exact hy.wpOp hi hS ⟨fun _ h=>h,H⟩
  ·have h1:=H.2 j (ready_mono hj hji)
   obtain ⟨hjun,oj,hoj,hall⟩:=mem_ready.1 hj
   have hnot:∀ e∈oj.after,Region.binds md e=true→e.on≠i:=fun e he hb heq=>by
    have h1:=hall e he hb
    have h0:=(mem_ready.1 hr).1
    rw [heq] at h1
    rcases Nat.lt_or_ge i listed.size with h' | h'
    ·simp [h'] at h0 h1; rw [h0] at h1; cases h1
    ·simp [Array.getElem?_eq_none h'] at h1
   have hkeep:∀ w',(Wn md ops I j=false→S w→S w')→S0 w':=fun w' hw=>by
    rcases hI with ⟨hiI,rfl⟩ | rfl
    ·exact hw (Hp hoj hiI hnot) hS
    ·trivial
   have h2:=wpOp_putIf hoj (hfree j oj hoj hji hjun hnot) (fun cs b=>hsel i oi cs b hi) (fun cs b=>hsel j oj cs b hoj) hQ hy h1
   have hfree':∀ k ok,ops[k]? = some ok→k≠i→(listed.setIfInBounds j true).getD k true=false →
     (∀ e∈ok.after,Region.binds md e=true→e.on≠i)→oi.apart ops ok=true:=fun k ok hk hki hun hno=>by
    refine hfree k ok hk hki ?_ hno
    by_cases hjk:j=k
    ·subst hjk; exact hjun
    ·rw [getD_set_ne true hjk] at hun; exact hun
   refine wpOp_mono (fun a' w' h3=>⟨h3.2.1,ih (listed.setIfInBounds j true) a' w' hfree' (ready_mono hr (Ne.symm hji)) h3.1 (hkeep w' h3.2.1) ?_⟩) h2
   rw [Array.setIfInBounds_comm _ _ hji]
   exact h3.2.2
theorem Zp {i:Nat} (d:Option Tmp) {oi:Oper} {v:Value} {fuel:Nat} {listed:Array Bool} {a:Act} {w:World} (hiI:i∈I) (hi:ops[i]? = some oi) (hd:oi.dst=d)
  (hs:Region.noSelect ops=true) (hf:Region.free md ops listed i=true) (hr:(Region.ready md ops listed).contains i=true)
  (hQ:∀ c a w,Q (.panic c) (a.put d v) w→Q (.panic c) a w) (hy:YieldsIf P ops S oi v a) (hS:S w)
  (h:JY P md ops Q S I fuel (listed.setIfInBounds i true) (a.put d v) w):JY P md ops Q S I (fuel+1) listed a w:=by
 subst hd
 exact Tt (.inl ⟨hiI,rfl⟩) hi (Region.noSelect_spec hs) hQ fuel listed a w (Region.free_spec hi hf) (by simpa using hr) hy hS h
theorem Zb {i:Nat} (d:Option Tmp) {oi:Oper} {v:Value} {fuel:Nat} {listed:Array Bool} {a:Act} {w:World} (hi:ops[i]? = some oi) (hd:oi.dst=d)
  (hs:Region.noSelect ops=true) (hf:Region.free md ops listed i=true) (hr:(Region.ready md ops listed).contains i=true)
  (hQ:∀ c a w,Q (.panic c) (a.put d v) w→Q (.panic c) a w) (hy:YieldsIf P ops (fun _=>True) oi v a)
  (h:JY P md ops Q S I fuel (listed.setIfInBounds i true) (a.put d v) w):JY P md ops Q S I (fuel+1) listed a w:=by
 subst hd
 exact Tt (.inr rfl) hi (Region.noSelect_spec hs) hQ fuel listed a w (Region.free_spec hi hf) (by simpa using hr) hy trivial h
theorem Zw {listed:Array Bool} {a:Act} {w:World} (hr:Region.ready md ops listed=[]) (h:Q .normal a w):∀ fuel,JY P md ops Q S I fuel listed a w
 | 0=>⟨hr,h⟩
 | _+1=>⟨fun _=>h,by rw [hr]; simp⟩
def Zf (P:Program) (md:Region.Mode) (ops:Array Oper) (Q:Exit→Act→World→Prop) (S:World→Prop) (I:List Nat) (fuel:Nat) (listed:Array Bool) (a:Act) (w:World) (rs:List Nat):Prop :=
 ∀ i∈rs,wpOp P ops Q i (fun a' w'=>(Wn md ops I i=false→S w→S w')∧JY P md ops Q S I fuel (listed.setIfInBounds i true) a' w') a w
theorem Zf.nil {fuel:Nat} {listed:Array Bool} {a:Act} {w:World}:Zf P md ops Q S I fuel listed a w []:=fun _ h=>by cases h
theorem Zf.cons {fuel:Nat} {listed:Array Bool} {a:Act} {w:World} {i:Nat} {o:Oper} {rs:List Nat} (ho:ops[i]? = some o)
  (h:∀ K':Act→World→Prop,Shut (∀ a w',(S w→S w')→JY P md ops Q S I fuel (listed.setIfInBounds i true) a w'→K' a w')→if Region.wanted o (yielded ops a.tmps)=true then Oper.wp P o a w K' Q else K' (a.put o.dst undef) w)
  (hs:Zf P md ops Q S I fuel listed a w rs):Zf P md ops Q S I fuel listed a w (i::rs):=fun j hj=>by
 rcases List.mem_cons.1 hj with rfl | hj
 ·exact wpOp_step ho (fun K' hK=>h K' (fun a w hS hW=>hK a w ⟨fun _=>hS,hW⟩))
 ·exact hs j hj
theorem Zf.Qc {fuel:Nat} {listed:Array Bool} {a:Act} {w:World} {i:Nat} {o:Oper} {rs:List Nat} (ho:ops[i]? = some o) (hl:Wn md ops I i=true)
  (h:∀ K':Act→World→Prop,Shut (∀ a w,JY P md ops Q S I fuel (listed.setIfInBounds i true) a w→K' a w)→if Region.wanted o (yielded ops a.tmps)=true then Oper.wp P o a w K' Q else K' (a.put o.dst undef) w)
  (hs:Zf P md ops Q S I fuel listed a w rs):Zf P md ops Q S I fuel listed a w (i::rs):=fun j hj=>by
 rcases List.mem_cons.1 hj with rfl | hj
 ·exact wpOp_step ho (fun K' hK=>h K' (fun a w hW=>hK a w ⟨(fun h0 _=>absurd (hl.symm.trans h0) (by decide)),hW⟩))
 ·exact hs j hj
theorem Zj {rs:List Nat} {fuel:Nat} {listed:Array Bool} {a:Act} {w:World} (hr:Region.ready md ops listed=rs) (hne:rs≠[])
  (h:Zf P md ops Q S I fuel listed a w rs):JY P md ops Q S I (fuel+1) listed a w:=⟨fun h0=>absurd (hr▸h0) hne,hr▸h⟩
theorem Zm (I:List Nat) {id:Nat} {a:Act} {w:World} (hm:P.follows .mixedOrders=true) (hS:S w.drew)
  (h:S w.drew→JY P .any ops Q S I ops.size (Array.replicate ops.size false) a w.drew):(Code.region id ops true).wp P Q a w :=
 wp_region_any hm (Me _ _ _ _ (h hS))
end
end Go.Proofs.YtheflbaejhlboaaGreatDoor
namespace Go.Proofs.YtheflbaejhlboaaGreatDoor
open Go.RowKit
def sw (ps:List PI) (i j:Nat):List PI:=match ps[i]?,ps[j]? with
 | some p,some q=>(ps.set i q).set j p
 | _,_=>ps
theorem T4 (ps:List PI) (i j:Nat):(sw ps i j).length=ps.length:=by
 unfold sw
 split
 ·simp
 ·rfl
def QZ (ps:List PI) (a b:Nat):Nat→List PI
 | 0=>ps
 | k+1=>sw (QZ ps a b k) (a+k) (b+k)
theorem Qs (ps:List PI) (a b:Nat):∀ k,(QZ ps a b k).length=ps.length
 | 0=>rfl
 | k+1=>by rw [QZ,T4,Qs ps a b k]
set_option maxRecDepth 100000 in
set_option maxHeartbeats 4000000 in
theorem Xu {w:World} {g N cap C B n:Nat} {ps:List PI} {f:Value} (h:Arr w g ps) (hN:ps.length=N) (hcap:N≤cap) (h1:C+n≤B) (h2:B+n≤N) (hm:N≤4611686018427387903) :
  Calls Tryz.prog 590 #[.slice (some ⟨g,0,none⟩) N cap,.int .i64 (C:Int),.int .i64 (B:Int),.int .i64 (n:Int),f] w fun e w'=>e = .returned (.tuple #[])∧Arr w' g (QZ ps C B n)∧Chg (fun b=>b=g) w w':=by
 have H:=Lib.hid h
 have HN:=Lib.hid hN
 clear h hN
 have hst:=Z5
 go_enter Tryz.func590,Tryz.ntmps590
 go_wp2_with fail
 go_loopw [10] (fun i wr=>∃ (J:Nat),J≤n∧i = .int .i64 J∧Hid (Arr wr g (QZ ps C B J))∧Chg (fun b=>b=g) w wr) (fun i _=>n-(intOf i).toNat)
 case atStart=>exact ⟨0,Nat.zero_le _,rfl,H,Chg.refl _ _⟩
 case round =>
  obtain ⟨J,hJ,rfl,HR,hcw⟩:=hrel
  by_cases hlt:J<n
  ·obtain ⟨⟨pv,px⟩,hp⟩:∃ p,(QZ ps C B J)[C+J]? = some p:=⟨_,List.getElem?_eq_getElem (by rw [Qs,HN.out]; omega)⟩
   obtain ⟨⟨qv,qx⟩,hq⟩:∃ p,(QZ ps C B J)[B+J]? = some p:=⟨_,List.getElem?_eq_getElem (by rw [Qs,HN.out]; omega)⟩
   have ha:Arr wr.drew g (QZ ps C B J):=HR.out.Zi ((Chg.refl _ wr).drew)
   obtain ⟨d2,d3,e2,e3⟩:=ha.cells hp
   obtain ⟨d0,d1,e0,e1⟩:=ha.cells hq
   obtain ⟨x2,x3,y2,y3⟩:=HR.out.cells hp
   obtain ⟨x0,x1,y0,y1⟩:=HR.out.cells hq
   have s1:=ha.one hp
   have s2:=ha.one hq
   have HW:=Lib.hid (ha.swap hp hq)
   have HSW:=Lib.hid (show QZ ps C B (J+1)=(((QZ ps C B J).set (C+J) (qv,qx)).set (B+J) (pv,px)) by rw [QZ,sw,hp,hq])
   have HA:=Lib.hid ha
   clear ha hp hq
   simp only at s1 s2 d0 d1 d2 d3 e0 e1 e2 e3 x0 x1 x2 x3 y0 y1 y2 y3
   obtain ⟨bi,hbi⟩:∃ m,B+J=m:=⟨_,rfl⟩
   obtain ⟨ci,hci⟩:∃ m,C+J=m:=⟨_,rfl⟩
   rw [hbi] at d0 d1 e0 e1 x0 x1 y0 y1 HSW
   rw [hci] at d2 d3 e2 e3 x2 x3 y2 y3 HSW
   rw [hbi,hci] at HW
   have w1:IntKind.i64.wrap ((B:Int)+(J:Int))=(bi:Int):=by rw [show (B:Int)+(J:Int)=(bi:Int) by omega]; exact IntWalk.i64_in _ (by omega)
   have w2:IntKind.i64.wrap ((C:Int)+(J:Int))=(ci:Int):=by rw [show (C:Int)+(J:Int)=(ci:Int) by omega]; exact IntWalk.i64_in _ (by omega)
   have m1:¬ bi=ci:=by omega
   have m2:¬ ci=bi:=by omega
   have m3:¬ bi*2=ci*2+1:=by omega
   have m4:¬ ci*2+1=bi*2:=by omega
   have m5:¬ bi*2+1=ci*2:=by omega
   have m6:¬ ci*2=bi*2+1:=by omega
   have l1:bi<N:=by omega
   have l2:ci<N:=by omega
   have l3:C+J=ci:=hci
   clear hbi hci l3
   go_wp2_with fail
   refine Zm [13,19] (S:=fun wx=>wx.cell? ⟨g,bi*2,none⟩=some qv∧wx.cell? ⟨g,bi*2+1,none⟩=some (.complex .f64 (fl qx.a) (fl qx.b))∧wx.cell? ⟨g,ci*2,none⟩=some pv∧wx.cell? ⟨g,ci*2+1,none⟩=some (.complex .f64 (fl px.a) (fl px.b))) (by kernel_rfl) ⟨d0,d1,d2,d3⟩ (fun hHeld => ?_)
   refine Zb (i:=0) (some 16) (v := ?_) rfl rfl (by kernel_rfl) (by kernel_rfl) (by kernel_rfl) (fun _ _ _ h=>h) (Or.inl ⟨by rfl,?_⟩) ?_
   rotate_left
   ·(intro wx hSw; clear hSw; go_simp; try (with_reducible rfl))
   try simp only [Act.put,List.setIfInBounds_toArray,List.set_cons_zero,List.set_cons_succ]
   refine Zb (i:=1) (some 17) (v := ?_) rfl rfl (by kernel_rfl) (by kernel_rfl) (by kernel_rfl) (fun _ _ _ h=>h) (Or.inl ⟨by rfl,?_⟩) ?_
   rotate_left
   ·(intro wx hSw; clear hSw; go_simp; try (with_reducible rfl))
   try simp only [Act.put,List.setIfInBounds_toArray,List.set_cons_zero,List.set_cons_succ]
   refine Zb (i:=2) (some 18) (v := ?_) rfl rfl (by kernel_rfl) (by kernel_rfl) (by kernel_rfl) (fun _ _ _ h=>h) (Or.inl ⟨by rfl,?_⟩) ?_
   rotate_left
   ·(intro wx hSw; clear hSw; go_simp; try (with_reducible rfl))
   try simp only [Act.put,List.setIfInBounds_toArray,List.set_cons_zero,List.set_cons_succ]
   refine Zb (i:=3) (some 19) (v := ?_) rfl rfl (by kernel_rfl) (by kernel_rfl) (by kernel_rfl) (fun _ _ _ h=>h) (Or.inl ⟨by rfl,?_⟩) ?_
   rotate_left
   ·(intro wx hSw; clear hSw; go_simp; try (with_reducible rfl))
   try simp only [Act.put,List.setIfInBounds_toArray,List.set_cons_zero,List.set_cons_succ]
   refine Zb (i:=4) (some 20) (v := ?_) rfl rfl (by kernel_rfl) (by kernel_rfl) (by kernel_rfl) (fun _ _ _ h=>h) (Or.inl ⟨by rfl,?_⟩) ?_
   rotate_left
   ·(intro wx hSw; clear hSw; go_simp; try (with_reducible rfl))
   try simp only [Act.put,List.setIfInBounds_toArray,List.set_cons_zero,List.set_cons_succ]
   refine Zb (i:=5) (some 21) (v := ?_) rfl rfl (by kernel_rfl) (by kernel_rfl) (by kernel_rfl) (fun _ _ _ h=>h) (Or.inl ⟨by rfl,?_⟩) ?_
   rotate_left
   ·(intro wx hSw; clear hSw; go_simp; try (with_reducible rfl))
   try simp only [Act.put,List.setIfInBounds_toArray,List.set_cons_zero,List.set_cons_succ]
   refine Zb (i:=6) (some 22) (v := ?_) rfl rfl (by kernel_rfl) (by kernel_rfl) (by kernel_rfl) (fun _ _ _ h=>h) (Or.inl ⟨by rfl,?_⟩) ?_
   rotate_left
   ·(intro wx hSw; clear hSw; go_simp; try (with_reducible rfl))
   try simp only [Act.put,List.setIfInBounds_toArray,List.set_cons_zero,List.set_cons_succ]
   refine Zb (i:=7) (some 23) (v := ?_) rfl rfl (by kernel_rfl) (by kernel_rfl) (by kernel_rfl) (fun _ _ _ h=>h) (Or.inl ⟨by rfl,?_⟩) ?_
   rotate_left
   ·(intro wx hSw; clear hSw; go_simp; try (with_reducible rfl))
   try simp only [Act.put,List.setIfInBounds_toArray,List.set_cons_zero,List.set_cons_succ]
   refine Zb (i:=8) (some 24) (v := ?_) rfl rfl (by kernel_rfl) (by kernel_rfl) (by kernel_rfl) (fun _ _ _ h=>h) (Or.inl ⟨by rfl,?_⟩) ?_
   rotate_left
   ·(intro wx hSw; clear hSw; go_simp; try (with_reducible rfl))
   try simp only [Act.put,List.setIfInBounds_toArray,List.set_cons_zero,List.set_cons_succ]
   refine Zb (i:=9) (some 25) (v := ?_) rfl rfl (by kernel_rfl) (by kernel_rfl) (by kernel_rfl) (fun _ _ _ h=>h) (Or.inl ⟨by rfl,?_⟩) ?_
   rotate_left
   ·(intro wx hSw; clear hSw; go_simp; try (with_reducible rfl))
   try simp only [Act.put,List.setIfInBounds_toArray,List.set_cons_zero,List.set_cons_succ]
   refine Zb (i:=10) (some 26) (v := ?_) rfl rfl (by kernel_rfl) (by kernel_rfl) (by kernel_rfl) (fun _ _ _ h=>h) (Or.inl ⟨by rfl,?_⟩) ?_
   rotate_left
   ·(intro wx hSw; clear hSw; go_simp; try (with_reducible rfl))
   try simp only [Act.put,List.setIfInBounds_toArray,List.set_cons_zero,List.set_cons_succ]
   refine Zb (i:=11) (some 27) (v := ?_) rfl rfl (by kernel_rfl) (by kernel_rfl) (by kernel_rfl) (fun _ _ _ h=>h) (Or.inl ⟨by rfl,?_⟩) ?_
   rotate_left
   ·(intro wx hSw; clear hSw; go_simp; try (with_reducible rfl))
   try simp only [Act.put,List.setIfInBounds_toArray,List.set_cons_zero,List.set_cons_succ]
   refine Zb (i:=12) (some 28) (v := ?_) rfl rfl (by kernel_rfl) (by kernel_rfl) (by kernel_rfl) (fun _ _ _ h=>h) (Or.inl ⟨by rfl,?_⟩) ?_
   rotate_left
   ·(intro wx hSw; clear hSw; go_simp; try (with_reducible rfl))
   try simp only [Act.put,List.setIfInBounds_toArray,List.set_cons_zero,List.set_cons_succ]
   refine Zp (i:=13) (some 29) (v := ?_) (by decide) rfl rfl (by kernel_rfl) (by kernel_rfl) (by kernel_rfl) (fun _ _ _ h=>h) (Or.inl ⟨by rfl,?_⟩) (by assumption) ?_
   rotate_left
   ·(intro wx hSw; go_simp; try (with_reducible rfl))
   try simp only [Act.put,List.setIfInBounds_toArray,List.set_cons_zero,List.set_cons_succ]
   refine Zb (i:=14) (some 30) (v := ?_) rfl rfl (by kernel_rfl) (by kernel_rfl) (by kernel_rfl) (fun _ _ _ h=>h) (Or.inl ⟨by rfl,?_⟩) ?_
   rotate_left
   ·(intro wx hSw; clear hSw; go_simp; try (with_reducible rfl))
   try simp only [Act.put,List.setIfInBounds_toArray,List.set_cons_zero,List.set_cons_succ]
   refine Zb (i:=15) (some 31) (v := ?_) rfl rfl (by kernel_rfl) (by kernel_rfl) (by kernel_rfl) (fun _ _ _ h=>h) (Or.inl ⟨by rfl,?_⟩) ?_
   rotate_left
   ·(intro wx hSw; clear hSw; go_simp; try (with_reducible rfl))
   try simp only [Act.put,List.setIfInBounds_toArray,List.set_cons_zero,List.set_cons_succ]
   refine Zb (i:=16) (some 32) (v := ?_) rfl rfl (by kernel_rfl) (by kernel_rfl) (by kernel_rfl) (fun _ _ _ h=>h) (Or.inl ⟨by rfl,?_⟩) ?_
   rotate_left
   ·(intro wx hSw; clear hSw; go_simp; try (with_reducible rfl))
   try simp only [Act.put,List.setIfInBounds_toArray,List.set_cons_zero,List.set_cons_succ]
   refine Zb (i:=17) (some 33) (v := ?_) rfl rfl (by kernel_rfl) (by kernel_rfl) (by kernel_rfl) (fun _ _ _ h=>h) (Or.inl ⟨by rfl,?_⟩) ?_
   rotate_left
   ·(intro wx hSw; clear hSw; go_simp; try (with_reducible rfl))
   try simp only [Act.put,List.setIfInBounds_toArray,List.set_cons_zero,List.set_cons_succ]
   refine Zb (i:=18) (some 34) (v := ?_) rfl rfl (by kernel_rfl) (by kernel_rfl) (by kernel_rfl) (fun _ _ _ h=>h) (Or.inl ⟨by rfl,?_⟩) ?_
   rotate_left
   ·(intro wx hSw; clear hSw; go_simp; try (with_reducible rfl))
   try simp only [Act.put,List.setIfInBounds_toArray,List.set_cons_zero,List.set_cons_succ]
   refine Zp (i:=19) (some 35) (v := ?_) (by decide) rfl rfl (by kernel_rfl) (by kernel_rfl) (by kernel_rfl) (fun _ _ _ h=>h) (Or.inl ⟨by rfl,?_⟩) (by assumption) ?_
   rotate_left
   ·(intro wx hSw; go_simp; try (with_reducible rfl))
   try simp only [Act.put,List.setIfInBounds_toArray,List.set_cons_zero,List.set_cons_succ]
   refine Zb (i:=20) (some 36) (v := ?_) rfl rfl (by kernel_rfl) (by kernel_rfl) (by kernel_rfl) (fun _ _ _ h=>h) (Or.inl ⟨by rfl,?_⟩) ?_
   rotate_left
   ·(intro wx hSw; clear hSw; go_simp; try (with_reducible rfl))
   try simp only [Act.put,List.setIfInBounds_toArray,List.set_cons_zero,List.set_cons_succ]
   refine Zj (rs:=[21]) (by kernel_rfl) (by simp) ?_
   refine Zf.Qc rfl (by kernel_rfl) (fun K hK => ?_) Zf.nil
   go_simp
   refine hK.out _ _ ?_
   clear hK K
   try simp only [Act.put,List.setIfInBounds_toArray,List.set_cons_zero,List.set_cons_succ]
   refine Zb (i:=22) (some 37) (v := ?_) rfl rfl (by kernel_rfl) (by kernel_rfl) (by kernel_rfl) (fun _ _ _ h=>h) (Or.inl ⟨by rfl,?_⟩) ?_
   rotate_left
   ·(intro wx hSw; clear hSw; go_simp; try (with_reducible rfl))
   try simp only [Act.put,List.setIfInBounds_toArray,List.set_cons_zero,List.set_cons_succ]
   refine Zj (rs:=[23]) (by kernel_rfl) (by simp) ?_
   refine Zf.Qc rfl (by kernel_rfl) (fun K hK => ?_) Zf.nil
   go_simp
   refine hK.out _ _ ?_
   clear hK K
   try simp only [Act.put,List.setIfInBounds_toArray,List.set_cons_zero,List.set_cons_succ]
   refine Zw (by kernel_rfl) ?_ _
   go_wp2_with fail
   go_roundw
   case rel =>
    refine ⟨J+1,by omega,by go_num,Lib.hid ?_,?_⟩
    ·rw [HSW.out]; exact HW.out
    ·exact (hcw.drew).trans (VB wr.drew g ci bi (pv,px) (qv,qx)) fun _ _ h=>h
   case measure=>simp [intOf]; omega
  ·have hge:¬ ((J:Int)<(n:Int)):=by omega
   have e:J=n:=by omega
   subst e
   go_wp2_with fail
   go_end0
   exact ⟨rfl,HR.out,hcw⟩
end Go.Proofs.YtheflbaejhlboaaGreatDoor
namespace Go.Proofs.YtheflbaejhlboaaGreatDoor
open Go.RowKit
def Kr:Nat→List PI→Nat→Nat→Nat→List PI
 | 0,ps,_,_,_=>ps
 | f+1,ps,m,i,j=>if i=j then QZ ps (m-i) m i else if j<i then Kr f (QZ ps (m-i) m j) m (i-j) j else Kr f (QZ ps (m-i) (m+j-i) i) m i (j-i)
theorem Q0:∀ f ps m i j,(Kr f ps m i j).length=ps.length
 | 0,_,_,_,_=>rfl
 | f+1,ps,m,i,j=>by
  rw [Kr]
  split
  ·exact Qs _ _ _ _
  ·split
   ·rw [Q0 f,Qs]
   ·rw [Q0 f,Qs]
theorem VJ:∀ f g ps m i j,0<i→0<j→i+j≤f→i+j≤g→Kr f ps m i j=Kr g ps m i j
 | 0,_,_,_,_,_,_,_,_,_=>by omega
 | _+1,0,_,_,_,_,_,_,_,_=>by omega
 | f+1,g+1,ps,m,i,j,hi,hj,h1,h2=>by
  rw [Kr,Kr]
  split
  ·rfl
  ·split
   ·exact VJ f g _ _ _ _ (by omega) hj (by omega) (by omega)
   ·exact VJ f g _ _ _ _ hi (by omega) (by omega) (by omega)
set_option maxRecDepth 100000 in
set_option maxHeartbeats 4000000 in
theorem Hq {w:World} {g N cap a m b:Nat} {ps:List PI} {f:Value} (h:Arr w g ps) (hN:ps.length=N) (hcap:N≤cap) (h1:a<m) (h2:m<b) (h3:b≤N) (hm:N≤1000000000) :
  Calls Tryz.prog 550 #[.slice (some ⟨g,0,none⟩) N cap,.int .i64 (a:Int),.int .i64 (m:Int),.int .i64 (b:Int),f] w fun e w'=>e = .returned (.tuple #[])∧Arr w' g (Kr (m-a+(b-m)) ps m (m-a) (b-m))∧Chg (fun b=>b=g) w w':=by
 have H:=Lib.hid h
 have HN:=Lib.hid hN
 have HM:=Lib.hid hm
 clear h hN
 have w1:IntKind.i64.wrap ((m:Int)-(a:Int))=((m-a:Nat):Int):=by rw [show (m:Int)-(a:Int)=((m-a:Nat):Int) by omega]; exact IntWalk.i64_in _ (by omega)
 have w2:IntKind.i64.wrap ((b:Int)-(m:Int))=((b-m:Nat):Int):=by rw [show (b:Int)-(m:Int)=((b-m:Nat):Int) by omega]; exact IntWalk.i64_in _ (by omega)
 obtain ⟨I0,hI0⟩:∃ x,m-a=x:=⟨_,rfl⟩
 obtain ⟨J0,hJ0⟩:∃ x,b-m=x:=⟨_,rfl⟩
 rw [hI0] at w1 ⊢
 rw [hJ0] at w2 ⊢
 have hi1:0<I0:=by omega
 have hj1:0<J0:=by omega
 have hiM:I0≤m:=by omega
 have hjN:m+J0≤N:=by omega
 clear hm hI0 hJ0 h1 h2 h3
 go_enter Tryz.func550,Tryz.ntmps550
 go_wp2_with fail
 go_loopw [10,11] (fun x y wr=>∃ (I J:Nat) (qs:List PI),0<I∧I≤I0∧0<J∧J≤J0∧x = .int .i64 I∧y = .int .i64 J∧Hid (qs.length=N)∧Hid (Arr wr g qs)∧Hid (Kr (I0+J0) ps m I0 J0=Kr (I+J) qs m I J)∧Chg (fun b=>b=g) w wr) (fun x y _=>(intOf x).toNat+(intOf y).toNat)
 case atStart=>exact ⟨I0,J0,ps,hi1,Nat.le_refl _,hj1,Nat.le_refl _,rfl,rfl,HN,H,Lib.hid rfl,Chg.refl _ _⟩
 case round =>
  obtain ⟨I,J,qs,hI1,hI2,hJ1,hJ2,rfl,rfl,HL,HA,HR,hcw⟩:=hrel
  have hM:=HM.out
  by_cases he:I=J
  ·subst he
   have hs:=Xu (C:=m-I) (B:=m) (n:=I) (f:=f) HA.out HL.out hcap (by omega) (by omega) (by omega)
   have w3:IntKind.i64.wrap ((m:Int)-(I:Int))=((m-I:Nat):Int):=by rw [show (m:Int)-(I:Int)=((m-I:Nat):Int) by omega]; exact IntWalk.i64_in _ (by omega)
   obtain ⟨mi,hmi⟩:∃ x,m-I=x:=⟨_,rfl⟩
   have HD:=Lib.hid (HR.out.trans (by rw [show I+I=(I+I-1)+1 by omega,Kr,if_pos rfl,hmi]))
   rw [hmi] at w3 hs
   clear hmi hM HR
   go_wp2_with fail
   refine hs.mono ?_
   rintro _ w2 ⟨rfl,hA2,hc2⟩
   have HA2:=Lib.hid hA2
   clear hA2
   go_wp2_with fail
   go_end0
   exact ⟨rfl,by rw [HD.out]; exact HA2.out,hcw.trans hc2 fun _ _ h=>h⟩
  ·by_cases hgt:J<I
   ·have hs:=Xu (C:=m-I) (B:=m) (n:=J) (f:=f) HA.out HL.out hcap (by omega) (by omega) (by omega)
    have w3:IntKind.i64.wrap ((m:Int)-(I:Int))=((m-I:Nat):Int):=by rw [show (m:Int)-(I:Int)=((m-I:Nat):Int) by omega]; exact IntWalk.i64_in _ (by omega)
    have w4:IntKind.i64.wrap ((I:Int)-(J:Int))=((I-J:Nat):Int):=by rw [show (I:Int)-(J:Int)=((I-J:Nat):Int) by omega]; exact IntWalk.i64_in _ (by omega)
    obtain ⟨mi,hmi⟩:∃ x,m-I=x:=⟨_,rfl⟩
    obtain ⟨ij,hij⟩:∃ x,I-J=x:=⟨_,rfl⟩
    have HD:=Lib.hid (HR.out.trans (by rw [show I+J=(I+J-1)+1 by omega,Kr,if_neg he,if_pos hgt,hmi,hij]))
    rw [hmi] at w3 hs
    rw [hij] at w4
    have k1:0<ij:=by omega
    have k2:ij≤I0:=by omega
    have k3:ij+J<I+J:=by omega
    have HD2:=Lib.hid (HD.out.trans (VJ (I+J-1) (ij+J) _ m ij J k1 hJ1 (by omega) (Nat.le_refl _)))
    clear hmi hM HR hij HD
    have he':¬ ((I:Int)=(J:Int)):=by omega
    go_wp2_with fail
    refine hs.mono ?_
    rintro _ w2 ⟨rfl,hA2,hc2⟩
    have HA2:=Lib.hid hA2
    clear hA2
    go_wp2_with fail
    go_roundw
    case rel=>exact ⟨ij,J,_,k1,k2,hJ1,hJ2,rfl,rfl,Lib.hid (by rw [Qs]; exact HL.out),HA2,HD2,hcw.trans hc2 fun _ _ h=>h⟩
    case measure=>simp [intOf]; omega
   ·have hs:=Xu (C:=m-I) (B:=m+J-I) (n:=I) (f:=f) HA.out HL.out hcap (by omega) (by omega) (by omega)
    have w3:IntKind.i64.wrap ((m:Int)-(I:Int))=((m-I:Nat):Int):=by rw [show (m:Int)-(I:Int)=((m-I:Nat):Int) by omega]; exact IntWalk.i64_in _ (by omega)
    have w4:IntKind.i64.wrap ((J:Int)-(I:Int))=((J-I:Nat):Int):=by rw [show (J:Int)-(I:Int)=((J-I:Nat):Int) by omega]; exact IntWalk.i64_in _ (by omega)
    have w5:IntKind.i64.wrap ((m:Int)+(J:Int))=((m+J:Nat):Int):=by rw [show (m:Int)+(J:Int)=((m+J:Nat):Int) by omega]; exact IntWalk.i64_in _ (by omega)
    have w6:IntKind.i64.wrap (((m+J:Nat):Int)-(I:Int))=((m+J-I:Nat):Int):=by rw [show ((m+J:Nat):Int)-(I:Int)=((m+J-I:Nat):Int) by omega]; exact IntWalk.i64_in _ (by omega)
    obtain ⟨mi,hmi⟩:∃ x,m-I=x:=⟨_,rfl⟩
    obtain ⟨ji,hji⟩:∃ x,J-I=x:=⟨_,rfl⟩
    obtain ⟨mj,hmj⟩:∃ x,m+J=x:=⟨_,rfl⟩
    obtain ⟨mji,hmji⟩:∃ x,mj-I=x:=⟨_,rfl⟩
    have HD:=Lib.hid (HR.out.trans (by rw [show I+J=(I+J-1)+1 by omega,Kr,if_neg he,if_neg hgt,hmi,hji,hmj,hmji]))
    rw [hmi] at w3
    rw [hji] at w4
    rw [hmj] at w5 w6
    rw [hmji] at w6
    rw [hmi,hmj,hmji] at hs
    have k1:0<ji:=by omega
    have k2:ji≤J0:=by omega
    have k3:I+ji<I+J:=by omega
    have HD2:=Lib.hid (HD.out.trans (VJ (I+J-1) (I+ji) _ m I ji hI1 k1 (by omega) (Nat.le_refl _)))
    clear hmi hM HR hji HD hmj hmji
    have he':¬ ((I:Int)=(J:Int)):=by omega
    go_wp2_with fail
    refine hs.mono ?_
    rintro _ w2 ⟨rfl,hA2,hc2⟩
    have HA2:=Lib.hid hA2
    clear hA2
    go_wp2_with fail
    go_roundw
    case rel=>exact ⟨I,ji,_,hI1,hI2,k1,k2,rfl,rfl,Lib.hid (by rw [Qs]; exact HL.out),HA2,HD2,hcw.trans hc2 fun _ _ h=>h⟩
    case measure=>simp [intOf]; omega
end Go.Proofs.YtheflbaejhlboaaGreatDoor
namespace Go.Proofs.YtheflbaejhlboaaGreatDoor
open Go.RowKit
def QF (a:Nat):Nat→List PI→List PI
 | 0,ps=>ps
 | j+1,ps=>if a<j+1 then (match ps[j+1]?,ps[j]? with
   | some x,some y=>if J3 x y<0 then QF a j ((ps.set (j+1) y).set j x) else ps
   | _,_=>ps) else ps
def Jp (a:Nat):Nat→Nat→List PI→List PI
 | 0,_,ps=>ps
 | k+1,i,ps=>Jp a k (i+1) (QF a i ps)
theorem Vf (a:Nat):∀ j ps,(QF a j ps).length=ps.length
 | 0,_=>rfl
 | j+1,ps=>by
  rw [QF]
  split
  ·split
   ·split
    ·rw [Vf a j]; simp
    ·rfl
   ·rfl
  ·rfl
theorem Hr {α : Type} {l:List α} {i j:Nat} {x y : α} (hx:x∈l) (hy:y∈l) {z : α} (hz:z∈(l.set i x).set j y):z∈l:=by
 rcases List.mem_or_eq_of_mem_set hz with hz | rfl
 ·rcases List.mem_or_eq_of_mem_set hz with hz | rfl
  ·exact hz
  ·exact hx
 ·exact hy
theorem RK (a:Nat):∀ j ps z,z∈QF a j ps→z∈ps
 | 0,_,_,h=>h
 | j+1,ps,z,h=>by
  rw [QF] at h
  split at h
  ·split at h
   ·rename_i x y hx hy
    split at h
    ·exact Hr (List.mem_of_getElem? hy) (List.mem_of_getElem? hx) (RK a j _ z h)
    ·exact h
   ·exact h
  ·exact h
theorem Vg (a:Nat):∀ k i ps,(Jp a k i ps).length=ps.length
 | 0,_,_=>rfl
 | k+1,i,ps=>by rw [Jp,Vg a k,Vf]
theorem RM (a:Nat):∀ k i ps z,z∈Jp a k i ps→z∈ps
 | 0,_,_,_,h=>h
 | k+1,i,ps,z,h=>RK a i ps z (RM a k (i+1) _ z h)
def Ks:Value := .func (.func 285) #[] #[]
set_option maxRecDepth 100000 in
set_option maxHeartbeats 8000000 in
theorem R7 {F:Nat→Prop} {w:World} {g N cap a b:Nat} {ps:List PI} (h:Arr w g ps) (hN:ps.length=N) (hcap:N≤cap) (hab:a≤b) (hb:b≤N) (hm:N≤1000000000) (hp:∀ p∈ps,POk F w p) (hF:¬ F g) :
  Calls Tryz.prog 481 #[.slice (some ⟨g,0,none⟩) N cap,.int .i64 (a:Int),.int .i64 (b:Int),Ks] w fun e w'=>e = .returned (.tuple #[])∧Arr w' g (Jp a (b-(a+1)) (a+1) ps)∧Chg (fun k=>k=g) w w':=by
 have H:=Lib.hid h
 have HN:=Lib.hid hN
 have HM:=Lib.hid hm
 have HP:=Lib.hid hp
 have HF:=Lib.hid hF
 have wa:IntKind.i64.wrap ((a:Int)+1)=((a+1:Nat):Int):=by rw [show (a:Int)+1=((a+1:Nat):Int) by omega]; exact IntWalk.i64_in _ (by omega)
 have hst:=Z5
 clear h hN hm hp hF
 unfold Ks
 go_enter Tryz.func481,Tryz.ntmps481
 go_wp2_with fail
 go_loopw [8] (fun x wr=>∃ (I:Nat) (qs:List PI),a+1≤I∧I≤max b (a+1)∧x = .int .i64 I∧Hid (qs.length=N)∧Hid (Arr wr g qs)∧Hid (∀ p∈qs,p∈ps)∧Hid (Jp a (b-(a+1)) (a+1) ps=Jp a (b-I) I qs)∧Chg (fun k=>k=g) w wr) (fun x _=>b-(intOf x).toNat)
 case atStart=>exact ⟨a+1,ps,Nat.le_refl _,Nat.le_max_right _ _,by go_num,HN,H,Lib.hid (fun p h=>h),Lib.hid rfl,Chg.refl _ _⟩
 case round =>
  obtain ⟨I,qs,hI1,hI2,rfl,HL,HA,HQ,HR,hcw⟩:=hrel
  have hM:=HM.out
  obtain ⟨wq,hwq⟩:∃ x,x=wr:=⟨_,rfl⟩
  subst hwq
  by_cases hlt:I<b
  ·go_wp2_with fail
   go_loopw [9] (fun y wr=>∃ (J:Nat) (rs:List PI),a≤J∧J≤I∧y = .int .i64 J∧Hid (rs.length=N)∧Hid (Arr wr g rs)∧Hid (∀ p∈rs,p∈ps)∧Hid (QF a I qs=QF a J rs)∧Chg (fun k=>k=g) w wr) (fun y _=>(intOf y).toNat)
   case atStart=>exact ⟨I,qs,by omega,Nat.le_refl _,rfl,HL,HA,HQ,Lib.hid rfl,hcw⟩
   case round =>
    clear hcw HA
    obtain ⟨J0,rs,hJ1,hJ2,rfl,HL2,HA2,HQ2,HR2,hcw⟩:=hrel
    by_cases hj:a<J0
    ·obtain ⟨J,rfl⟩:∃ J,J0=J+1:=⟨J0-1,by omega⟩
     obtain ⟨⟨xv,xx⟩,hx⟩:∃ p,rs[J+1]? = some p:=⟨_,List.getElem?_eq_getElem (by rw [HL2.out]; omega)⟩
     obtain ⟨⟨yv,yx⟩,hy⟩:∃ p,rs[J]? = some p:=⟨_,List.getElem?_eq_getElem (by rw [HL2.out]; omega)⟩
     have ha:Arr wr.drew g rs:=HA2.out.Zi ((Chg.refl _ wr).drew)
     obtain ⟨d2,d3,e2,e3⟩:=ha.cells hx
     obtain ⟨d0,d1,e0,e1⟩:=ha.cells hy
     have hcd:=hcw.drew
     have hpx:POk F wr.drew (xv,xx):=(HP.out _ (HQ2.out _ (List.mem_of_getElem? hx))).chg hcd fun k hk _ e=>HF.out (e▸hk)
     have hpy:POk F wr.drew (yv,yx):=(HP.out _ (HQ2.out _ (List.mem_of_getElem? hy))).chg hcd fun k hk _ e=>HF.out (e▸hk)
     obtain ⟨cv,hcv⟩:∃ c,J3 (xv,xx) (yv,yx)=c:=⟨_,rfl⟩
     have HD:=Lib.hid (show QF a I qs=if J3 (xv,xx) (yv,yx)<0 then QF a J ((rs.set (J+1) (yv,yx)).set J (xv,xx)) else rs from HR2.out.trans (by rw [QF,if_pos hj,hx,hy]))
     simp only at d0 d1 d2 d3 e0 e1 e2 e3
     rw [hcv] at HD
     obtain ⟨j1,hj1⟩:∃ m,J+1=m:=⟨_,rfl⟩
     have HX:=Lib.hid hx
     have HY:=Lib.hid hy
     rw [hj1] at d2 d3 e2 e3 HD HX
     have hjw:IntKind.i64.wrap ((j1:Int)-1)=(J:Int):=by rw [show (j1:Int)-1=(J:Int) by omega]; exact IntWalk.i64_in _ (by omega)
     have l1:j1<N:=by omega
     have l2:J<N:=by omega
     have l3:a<j1:=by omega
     have hji:((J:Int)+1)=(j1:Int):=by omega
     clear hx hy ha HR2
     rw [show (((J+1:Nat)):Int)=(j1:Int) by omega]
     go_wp2_with fail
     refine Zm [8,13] (S:=fun wx=>wx.cell? ⟨g,j1*2,none⟩=some xv∧wx.cell? ⟨g,j1*2+1,none⟩=some (.complex .f64 (fl xx.a) (fl xx.b))∧wx.cell? ⟨g,J*2,none⟩=some yv∧wx.cell? ⟨g,J*2+1,none⟩=some (.complex .f64 (fl yx.a) (fl yx.b))) (by kernel_rfl) ⟨d2,d3,d0,d1⟩ (fun hHeld => ?_)
     refine Zb (i:=0) (some 18) (v := ?_) rfl rfl (by kernel_rfl) (by kernel_rfl) (by kernel_rfl) (fun _ _ _ h=>h) (Or.inl ⟨by rfl,?_⟩) ?_
     rotate_left
     ·(intro wx hSw; clear hSw; go_simp; try (with_reducible rfl))
     try simp only [Act.put,List.setIfInBounds_toArray,List.set_cons_zero,List.set_cons_succ]
     refine Zb (i:=1) (some 19) (v := ?_) rfl rfl (by kernel_rfl) (by kernel_rfl) (by kernel_rfl) (fun _ _ _ h=>h) (Or.inl ⟨by rfl,?_⟩) ?_
     rotate_left
     ·(intro wx hSw; clear hSw; go_simp; try (with_reducible rfl))
     try simp only [Act.put,List.setIfInBounds_toArray,List.set_cons_zero,List.set_cons_succ]
     refine Zb (i:=2) (some 20) (v := ?_) rfl rfl (by kernel_rfl) (by kernel_rfl) (by kernel_rfl) (fun _ _ _ h=>h) (Or.inl ⟨by rfl,?_⟩) ?_
     rotate_left
     ·(intro wx hSw; clear hSw; go_simp; try (with_reducible rfl))
     try simp only [Act.put,List.setIfInBounds_toArray,List.set_cons_zero,List.set_cons_succ]
     refine Zb (i:=3) (some 21) (v := ?_) rfl rfl (by kernel_rfl) (by kernel_rfl) (by kernel_rfl) (fun _ _ _ h=>h) (Or.inl ⟨by rfl,?_⟩) ?_
     rotate_left
     ·(intro wx hSw; clear hSw; go_simp; try (with_reducible rfl))
     try simp only [Act.put,List.setIfInBounds_toArray,List.set_cons_zero,List.set_cons_succ]
     refine Zb (i:=4) (some 22) (v := ?_) rfl rfl (by kernel_rfl) (by kernel_rfl) (by kernel_rfl) (fun _ _ _ h=>h) (Or.inl ⟨by rfl,?_⟩) ?_
     rotate_left
     ·(intro wx hSw; clear hSw; go_simp; try (with_reducible rfl))
     try simp only [Act.put,List.setIfInBounds_toArray,List.set_cons_zero,List.set_cons_succ]
     refine Zb (i:=5) (some 23) (v := ?_) rfl rfl (by kernel_rfl) (by kernel_rfl) (by kernel_rfl) (fun _ _ _ h=>h) (Or.inl ⟨by rfl,?_⟩) ?_
     rotate_left
     ·(intro wx hSw; clear hSw; go_simp; try (with_reducible rfl))
     try simp only [Act.put,List.setIfInBounds_toArray,List.set_cons_zero,List.set_cons_succ]
     refine Zb (i:=6) (some 24) (v := ?_) rfl rfl (by kernel_rfl) (by kernel_rfl) (by kernel_rfl) (fun _ _ _ h=>h) (Or.inl ⟨by rfl,?_⟩) ?_
     rotate_left
     ·(intro wx hSw; clear hSw; go_simp; try (with_reducible rfl))
     try simp only [Act.put,List.setIfInBounds_toArray,List.set_cons_zero,List.set_cons_succ]
     refine Zb (i:=7) (some 25) (v := ?_) rfl rfl (by kernel_rfl) (by kernel_rfl) (by kernel_rfl) (fun _ _ _ h=>h) (Or.inl ⟨by rfl,?_⟩) ?_
     rotate_left
     ·(intro wx hSw; clear hSw; go_simp; try (with_reducible rfl))
     try simp only [Act.put,List.setIfInBounds_toArray,List.set_cons_zero,List.set_cons_succ]
     refine Zp (i:=8) (some 26) (v := ?_) (by decide) rfl rfl (by kernel_rfl) (by kernel_rfl) (by kernel_rfl) (fun _ _ _ h=>h) (Or.inl ⟨by rfl,?_⟩) (by assumption) ?_
     rotate_left
     ·(intro wx hSw; go_simp; try (with_reducible rfl))
     try simp only [Act.put,List.setIfInBounds_toArray,List.set_cons_zero,List.set_cons_succ]
     refine Zb (i:=9) (some 27) (v := ?_) rfl rfl (by kernel_rfl) (by kernel_rfl) (by kernel_rfl) (fun _ _ _ h=>h) (Or.inl ⟨by rfl,?_⟩) ?_
     rotate_left
     ·(intro wx hSw; clear hSw; go_simp; try (with_reducible rfl))
     try simp only [Act.put,List.setIfInBounds_toArray,List.set_cons_zero,List.set_cons_succ]
     refine Zb (i:=10) (some 28) (v := ?_) rfl rfl (by kernel_rfl) (by kernel_rfl) (by kernel_rfl) (fun _ _ _ h=>h) (Or.inl ⟨by rfl,?_⟩) ?_
     rotate_left
     ·(intro wx hSw; clear hSw; go_simp; try (with_reducible rfl))
     try simp only [Act.put,List.setIfInBounds_toArray,List.set_cons_zero,List.set_cons_succ]
     refine Zb (i:=11) (some 29) (v := ?_) rfl rfl (by kernel_rfl) (by kernel_rfl) (by kernel_rfl) (fun _ _ _ h=>h) (Or.inl ⟨by rfl,?_⟩) ?_
     rotate_left
     ·(intro wx hSw; clear hSw; go_simp; try (with_reducible rfl))
     try simp only [Act.put,List.setIfInBounds_toArray,List.set_cons_zero,List.set_cons_succ]
     refine Zb (i:=12) (some 30) (v := ?_) rfl rfl (by kernel_rfl) (by kernel_rfl) (by kernel_rfl) (fun _ _ _ h=>h) (Or.inl ⟨by rfl,?_⟩) ?_
     rotate_left
     ·(intro wx hSw; clear hSw; go_simp; try (with_reducible rfl))
     try simp only [Act.put,List.setIfInBounds_toArray,List.set_cons_zero,List.set_cons_succ]
     refine Zp (i:=13) (some 31) (v := ?_) (by decide) rfl rfl (by kernel_rfl) (by kernel_rfl) (by kernel_rfl) (fun _ _ _ h=>h) (Or.inl ⟨by rfl,?_⟩) (by assumption) ?_
     rotate_left
     ·(intro wx hSw; go_simp; try (with_reducible rfl))
     try simp only [Act.put,List.setIfInBounds_toArray,List.set_cons_zero,List.set_cons_succ]
     refine Zj (rs:=[14]) (by kernel_rfl) (by simp) ?_
     refine Zf.Qc rfl (by kernel_rfl) (fun K hK => ?_) Zf.nil
     go_simp
     refine (QY hpx hpy).mono ?_
     rintro _ wA ⟨rfl,hA⟩
     rw [hcv]
     go_wp2_with fail
     refine hK.out _ _ ?_
     clear hK K
     try simp only [Act.put,List.setIfInBounds_toArray,List.set_cons_zero,List.set_cons_succ]
     refine Zb (i:=15) (some 33) (v := ?_) rfl rfl (by kernel_rfl) (by kernel_rfl) (by kernel_rfl) (fun _ _ _ h=>h) (Or.inl ⟨by rfl,?_⟩) ?_
     rotate_left
     ·(intro wx hSw; clear hSw; go_simp; try (with_reducible rfl))
     try simp only [Act.put,List.setIfInBounds_toArray,List.set_cons_zero,List.set_cons_succ]
     refine Zb (i:=16) (some 34) (v := ?_) rfl rfl (by kernel_rfl) (by kernel_rfl) (by kernel_rfl) (fun _ _ _ h=>h) (Or.inl ⟨by rfl,?_⟩) ?_
     rotate_left
     ·(intro wx hSw; clear hSw; go_simp; try (with_reducible rfl))
     try simp only [Act.put,List.setIfInBounds_toArray,List.set_cons_zero,List.set_cons_succ]
     refine Zw (by kernel_rfl) ?_ _
     have hAA:Arr wA g rs:=(HA2.out.Zi ((Chg.refl _ wr).drew)).Zi hA
     have hAd:Arr wA.drew g rs:=hAA.Zi ((Chg.refl _ wA).drew)
     have hcA:Chg (fun k=>k=g) w wA:=hcd.trans hA fun _ _ h=>h.elim
     by_cases hneg:cv<0
     ·obtain ⟨x2,x3,y2,y3⟩:=hAA.cells HX.out
      obtain ⟨x0,x1,y0,y1⟩:=hAA.cells HY.out
      obtain ⟨f2,f3,k2,k3⟩:=hAd.cells HX.out
      obtain ⟨f0,f1,k0,k1⟩:=hAd.cells HY.out
      have s1:=hAA.one HX.out
      have s2:=hAA.one HY.out
      have HW:=Lib.hid (hAd.swap HX.out HY.out)
      simp only at x0 x1 x2 x3 y0 y1 y2 y3 f0 f1 f2 f3 k0 k1 k2 k3 s1 s2
      have m1:¬ j1=J:=by omega
      have m2:¬ J=j1:=by omega
      have m3:¬ j1*2=J*2+1:=by omega
      have m4:¬ J*2+1=j1*2:=by omega
      have m5:¬ j1*2+1=J*2:=by omega
      have m6:¬ J*2=j1*2+1:=by omega
      have HD2:=Lib.hid (HD.out.trans (if_pos hneg))
      have HM1:=Lib.hid (fun z (hz:z∈(rs.set j1 (yv,yx)).set J (xv,xx))=>HQ2.out z (Hr (List.mem_of_getElem? HY.out) (List.mem_of_getElem? HX.out) hz))
      clear hAA hAd d0 d1 d2 d3 e0 e1 e2 e3 hpx hpy HX HY
      go_wp2_with fail
      refine Zm [9,13] (S:=fun wx=>wx.cell? ⟨g,j1*2,none⟩=some xv∧wx.cell? ⟨g,j1*2+1,none⟩=some (.complex .f64 (fl xx.a) (fl xx.b))∧wx.cell? ⟨g,J*2,none⟩=some yv∧wx.cell? ⟨g,J*2+1,none⟩=some (.complex .f64 (fl yx.a) (fl yx.b))) (by kernel_rfl) ⟨f2,f3,f0,f1⟩ (fun hHeld => ?_)
      refine Zb (i:=0) (some 37) (v := ?_) rfl rfl (by kernel_rfl) (by kernel_rfl) (by kernel_rfl) (fun _ _ _ h=>h) (Or.inl ⟨by rfl,?_⟩) ?_
      rotate_left
      ·(intro wx hSw; clear hSw; go_simp; try (with_reducible rfl))
      try simp only [Act.put,List.setIfInBounds_toArray,List.set_cons_zero,List.set_cons_succ]
      refine Zb (i:=1) (some 38) (v := ?_) rfl rfl (by kernel_rfl) (by kernel_rfl) (by kernel_rfl) (fun _ _ _ h=>h) (Or.inl ⟨by rfl,?_⟩) ?_
      rotate_left
      ·(intro wx hSw; clear hSw; go_simp; try (with_reducible rfl))
      try simp only [Act.put,List.setIfInBounds_toArray,List.set_cons_zero,List.set_cons_succ]
      refine Zb (i:=2) (some 39) (v := ?_) rfl rfl (by kernel_rfl) (by kernel_rfl) (by kernel_rfl) (fun _ _ _ h=>h) (Or.inl ⟨by rfl,?_⟩) ?_
      rotate_left
      ·(intro wx hSw; clear hSw; go_simp; try (with_reducible rfl))
      try simp only [Act.put,List.setIfInBounds_toArray,List.set_cons_zero,List.set_cons_succ]
      refine Zb (i:=3) (some 40) (v := ?_) rfl rfl (by kernel_rfl) (by kernel_rfl) (by kernel_rfl) (fun _ _ _ h=>h) (Or.inl ⟨by rfl,?_⟩) ?_
      rotate_left
      ·(intro wx hSw; clear hSw; go_simp; try (with_reducible rfl))
      try simp only [Act.put,List.setIfInBounds_toArray,List.set_cons_zero,List.set_cons_succ]
      refine Zb (i:=4) (some 41) (v := ?_) rfl rfl (by kernel_rfl) (by kernel_rfl) (by kernel_rfl) (fun _ _ _ h=>h) (Or.inl ⟨by rfl,?_⟩) ?_
      rotate_left
      ·(intro wx hSw; clear hSw; go_simp; try (with_reducible rfl))
      try simp only [Act.put,List.setIfInBounds_toArray,List.set_cons_zero,List.set_cons_succ]
      refine Zb (i:=5) (some 42) (v := ?_) rfl rfl (by kernel_rfl) (by kernel_rfl) (by kernel_rfl) (fun _ _ _ h=>h) (Or.inl ⟨by rfl,?_⟩) ?_
      rotate_left
      ·(intro wx hSw; clear hSw; go_simp; try (with_reducible rfl))
      try simp only [Act.put,List.setIfInBounds_toArray,List.set_cons_zero,List.set_cons_succ]
      refine Zb (i:=6) (some 43) (v := ?_) rfl rfl (by kernel_rfl) (by kernel_rfl) (by kernel_rfl) (fun _ _ _ h=>h) (Or.inl ⟨by rfl,?_⟩) ?_
      rotate_left
      ·(intro wx hSw; clear hSw; go_simp; try (with_reducible rfl))
      try simp only [Act.put,List.setIfInBounds_toArray,List.set_cons_zero,List.set_cons_succ]
      refine Zb (i:=7) (some 44) (v := ?_) rfl rfl (by kernel_rfl) (by kernel_rfl) (by kernel_rfl) (fun _ _ _ h=>h) (Or.inl ⟨by rfl,?_⟩) ?_
      rotate_left
      ·(intro wx hSw; clear hSw; go_simp; try (with_reducible rfl))
      try simp only [Act.put,List.setIfInBounds_toArray,List.set_cons_zero,List.set_cons_succ]
      refine Zb (i:=8) (some 45) (v := ?_) rfl rfl (by kernel_rfl) (by kernel_rfl) (by kernel_rfl) (fun _ _ _ h=>h) (Or.inl ⟨by rfl,?_⟩) ?_
      rotate_left
      ·(intro wx hSw; clear hSw; go_simp; try (with_reducible rfl))
      try simp only [Act.put,List.setIfInBounds_toArray,List.set_cons_zero,List.set_cons_succ]
      refine Zp (i:=9) (some 46) (v := ?_) (by decide) rfl rfl (by kernel_rfl) (by kernel_rfl) (by kernel_rfl) (fun _ _ _ h=>h) (Or.inl ⟨by rfl,?_⟩) (by assumption) ?_
      rotate_left
      ·(intro wx hSw; go_simp; try (with_reducible rfl))
      try simp only [Act.put,List.setIfInBounds_toArray,List.set_cons_zero,List.set_cons_succ]
      refine Zb (i:=10) (some 47) (v := ?_) rfl rfl (by kernel_rfl) (by kernel_rfl) (by kernel_rfl) (fun _ _ _ h=>h) (Or.inl ⟨by rfl,?_⟩) ?_
      rotate_left
      ·(intro wx hSw; clear hSw; go_simp; try (with_reducible rfl))
      try simp only [Act.put,List.setIfInBounds_toArray,List.set_cons_zero,List.set_cons_succ]
      refine Zb (i:=11) (some 48) (v := ?_) rfl rfl (by kernel_rfl) (by kernel_rfl) (by kernel_rfl) (fun _ _ _ h=>h) (Or.inl ⟨by rfl,?_⟩) ?_
      rotate_left
      ·(intro wx hSw; clear hSw; go_simp; try (with_reducible rfl))
      try simp only [Act.put,List.setIfInBounds_toArray,List.set_cons_zero,List.set_cons_succ]
      refine Zb (i:=12) (some 49) (v := ?_) rfl rfl (by kernel_rfl) (by kernel_rfl) (by kernel_rfl) (fun _ _ _ h=>h) (Or.inl ⟨by rfl,?_⟩) ?_
      rotate_left
      ·(intro wx hSw; clear hSw; go_simp; try (with_reducible rfl))
      try simp only [Act.put,List.setIfInBounds_toArray,List.set_cons_zero,List.set_cons_succ]
      refine Zp (i:=13) (some 50) (v := ?_) (by decide) rfl rfl (by kernel_rfl) (by kernel_rfl) (by kernel_rfl) (fun _ _ _ h=>h) (Or.inl ⟨by rfl,?_⟩) (by assumption) ?_
      rotate_left
      ·(intro wx hSw; go_simp; try (with_reducible rfl))
      try simp only [Act.put,List.setIfInBounds_toArray,List.set_cons_zero,List.set_cons_succ]
      refine Zb (i:=14) (some 51) (v := ?_) rfl rfl (by kernel_rfl) (by kernel_rfl) (by kernel_rfl) (fun _ _ _ h=>h) (Or.inl ⟨by rfl,?_⟩) ?_
      rotate_left
      ·(intro wx hSw; clear hSw; go_simp; try (with_reducible rfl))
      try simp only [Act.put,List.setIfInBounds_toArray,List.set_cons_zero,List.set_cons_succ]
      refine Zj (rs:=[15]) (by kernel_rfl) (by simp) ?_
      refine Zf.Qc rfl (by kernel_rfl) (fun K hK => ?_) Zf.nil
      go_simp
      refine hK.out _ _ ?_
      clear hK K
      try simp only [Act.put,List.setIfInBounds_toArray,List.set_cons_zero,List.set_cons_succ]
      refine Zb (i:=16) (some 52) (v := ?_) rfl rfl (by kernel_rfl) (by kernel_rfl) (by kernel_rfl) (fun _ _ _ h=>h) (Or.inl ⟨by rfl,?_⟩) ?_
      rotate_left
      ·(intro wx hSw; clear hSw; go_simp; try (with_reducible rfl))
      try simp only [Act.put,List.setIfInBounds_toArray,List.set_cons_zero,List.set_cons_succ]
      refine Zj (rs:=[17]) (by kernel_rfl) (by simp) ?_
      refine Zf.Qc rfl (by kernel_rfl) (fun K hK => ?_) Zf.nil
      go_simp
      refine hK.out _ _ ?_
      clear hK K
      try simp only [Act.put,List.setIfInBounds_toArray,List.set_cons_zero,List.set_cons_succ]
      refine Zw (by kernel_rfl) ?_ _
      go_wp2_with fail
      go_roundw
      case rel =>
       refine ⟨J,_,by omega,by omega,rfl,?_,HW,HM1,HD2,?_⟩
       ·exact Lib.hid (by simp; exact HL2.out)
       ·exact (hcA.drew).trans (VB wA.drew g j1 J (xv,xx) (yv,yx)) fun _ _ h=>h
      case measure=>simp [intOf]; omega
     ·have HD2:=Lib.hid (HD.out.trans (if_neg hneg))
      have HA3:=Lib.hid hAA
      have hI1':IntKind.i64.wrap ((I:Int)+1)=((I+1:Nat):Int):=by rw [show (I:Int)+1=((I+1:Nat):Int) by omega]; exact IntWalk.i64_in _ (by omega)
      clear hAA hAd d0 d1 d2 d3 e0 e1 e2 e3 hpx hpy HX HY
      go_wp2_with fail
      go_roundw
      case rel =>
       refine ⟨I+1,_,by omega,by omega,by go_num,HL2,HA3,HQ2,Lib.hid (HR.out.trans ?_),hcA⟩
       rw [show b-I=(b-(I+1))+1 by omega,Jp,HD2.out]
      case measure=>simp [intOf]; omega
    ·have hJa:J0=a:=by omega
     subst hJa
     have HD2:=Lib.hid (HR2.out.trans (show QF J0 J0 rs=rs by cases J0 with | zero=>rfl | succ n=>rw [QF,if_neg (by omega)]))
     go_wp2_with fail
     refine Zm [8,13] (S:=fun _=>True) (by kernel_rfl) trivial (fun hHeld => ?_)
     refine Zb (i:=0) (some 18) (v := ?_) rfl rfl (by kernel_rfl) (by kernel_rfl) (by kernel_rfl) (fun _ _ _ h=>h) (Or.inl ⟨by rfl,?_⟩) ?_
     rotate_left
     ·(intro wx hSw; clear hSw; go_simp; try (with_reducible rfl))
     try simp only [Act.put,List.setIfInBounds_toArray,List.set_cons_zero,List.set_cons_succ]
     refine Zb (i:=1) (some 19) (v := ?_) rfl rfl (by kernel_rfl) (by kernel_rfl) (by kernel_rfl) (fun _ _ _ h=>h) (Or.inl ⟨by rfl,?_⟩) ?_
     rotate_left
     ·(intro wx hSw; clear hSw; go_simp; try (with_reducible rfl))
     try simp only [Act.put,List.setIfInBounds_toArray,List.set_cons_zero,List.set_cons_succ]
     refine Zb (i:=2) (some 20) (v := ?_) rfl rfl (by kernel_rfl) (by kernel_rfl) (by kernel_rfl) (fun _ _ _ h=>h) (Or.inl ⟨by rfl,?_⟩) ?_
     rotate_left
     ·(intro wx hSw; clear hSw; go_simp; try (with_reducible rfl))
     try simp only [Act.put,List.setIfInBounds_toArray,List.set_cons_zero,List.set_cons_succ]
     refine Zb (i:=3) (some 21) (v := ?_) rfl rfl (by kernel_rfl) (by kernel_rfl) (by kernel_rfl) (fun _ _ _ h=>h) (Or.inl ⟨by rfl,?_⟩) ?_
     rotate_left
     ·(intro wx hSw; clear hSw; go_simp; try (with_reducible rfl))
     try simp only [Act.put,List.setIfInBounds_toArray,List.set_cons_zero,List.set_cons_succ]
     refine Zb (i:=4) (some 22) (v:=undef) rfl rfl (by kernel_rfl) (by kernel_rfl) (by kernel_rfl) (fun _ _ _ h=>h) (Or.inr ⟨by rfl,rfl⟩) ?_
     try simp only [Act.put,List.setIfInBounds_toArray,List.set_cons_zero,List.set_cons_succ]
     refine Zb (i:=5) (some 23) (v:=undef) rfl rfl (by kernel_rfl) (by kernel_rfl) (by kernel_rfl) (fun _ _ _ h=>h) (Or.inr ⟨by rfl,rfl⟩) ?_
     try simp only [Act.put,List.setIfInBounds_toArray,List.set_cons_zero,List.set_cons_succ]
     refine Zb (i:=6) (some 24) (v:=undef) rfl rfl (by kernel_rfl) (by kernel_rfl) (by kernel_rfl) (fun _ _ _ h=>h) (Or.inr ⟨by rfl,rfl⟩) ?_
     try simp only [Act.put,List.setIfInBounds_toArray,List.set_cons_zero,List.set_cons_succ]
     refine Zb (i:=7) (some 25) (v:=undef) rfl rfl (by kernel_rfl) (by kernel_rfl) (by kernel_rfl) (fun _ _ _ h=>h) (Or.inr ⟨by rfl,rfl⟩) ?_
     try simp only [Act.put,List.setIfInBounds_toArray,List.set_cons_zero,List.set_cons_succ]
     refine Zb (i:=8) (some 26) (v:=undef) rfl rfl (by kernel_rfl) (by kernel_rfl) (by kernel_rfl) (fun _ _ _ h=>h) (Or.inr ⟨by rfl,rfl⟩) ?_
     try simp only [Act.put,List.setIfInBounds_toArray,List.set_cons_zero,List.set_cons_succ]
     refine Zb (i:=9) (some 27) (v:=undef) rfl rfl (by kernel_rfl) (by kernel_rfl) (by kernel_rfl) (fun _ _ _ h=>h) (Or.inr ⟨by rfl,rfl⟩) ?_
     try simp only [Act.put,List.setIfInBounds_toArray,List.set_cons_zero,List.set_cons_succ]
     refine Zb (i:=10) (some 28) (v:=undef) rfl rfl (by kernel_rfl) (by kernel_rfl) (by kernel_rfl) (fun _ _ _ h=>h) (Or.inr ⟨by rfl,rfl⟩) ?_
     try simp only [Act.put,List.setIfInBounds_toArray,List.set_cons_zero,List.set_cons_succ]
     refine Zb (i:=11) (some 29) (v:=undef) rfl rfl (by kernel_rfl) (by kernel_rfl) (by kernel_rfl) (fun _ _ _ h=>h) (Or.inr ⟨by rfl,rfl⟩) ?_
     try simp only [Act.put,List.setIfInBounds_toArray,List.set_cons_zero,List.set_cons_succ]
     refine Zb (i:=12) (some 30) (v:=undef) rfl rfl (by kernel_rfl) (by kernel_rfl) (by kernel_rfl) (fun _ _ _ h=>h) (Or.inr ⟨by rfl,rfl⟩) ?_
     try simp only [Act.put,List.setIfInBounds_toArray,List.set_cons_zero,List.set_cons_succ]
     refine Zb (i:=13) (some 31) (v:=undef) rfl rfl (by kernel_rfl) (by kernel_rfl) (by kernel_rfl) (fun _ _ _ h=>h) (Or.inr ⟨by rfl,rfl⟩) ?_
     try simp only [Act.put,List.setIfInBounds_toArray,List.set_cons_zero,List.set_cons_succ]
     refine Zb (i:=14) (some 32) (v:=undef) rfl rfl (by kernel_rfl) (by kernel_rfl) (by kernel_rfl) (fun _ _ _ h=>h) (Or.inr ⟨by rfl,rfl⟩) ?_
     try simp only [Act.put,List.setIfInBounds_toArray,List.set_cons_zero,List.set_cons_succ]
     refine Zb (i:=15) (some 33) (v:=undef) rfl rfl (by kernel_rfl) (by kernel_rfl) (by kernel_rfl) (fun _ _ _ h=>h) (Or.inr ⟨by rfl,rfl⟩) ?_
     try simp only [Act.put,List.setIfInBounds_toArray,List.set_cons_zero,List.set_cons_succ]
     refine Zb (i:=16) (some 34) (v := ?_) rfl rfl (by kernel_rfl) (by kernel_rfl) (by kernel_rfl) (fun _ _ _ h=>h) (Or.inl ⟨by rfl,?_⟩) ?_
     rotate_left
     ·(intro wx hSw; clear hSw; go_simp; try (with_reducible rfl))
     try simp only [Act.put,List.setIfInBounds_toArray,List.set_cons_zero,List.set_cons_succ]
     refine Zw (by kernel_rfl) ?_ _
     go_wp2_with fail
     go_roundw
     case rel =>
      refine ⟨I+1,rs,by omega,by omega,by go_num,HL2,Lib.hid (HA2.out.Zi ((Chg.refl _ wr).drew)),HQ2,Lib.hid (HR.out.trans ?_),hcw.drew⟩
      rw [show b-I=(b-(I+1))+1 by omega,Jp,HD2.out]
     case measure=>simp [intOf]; omega
  ·have hge:¬ ((I:Int)<(b:Int)):=by omega
   have e:b-I=0:=by omega
   rw [e] at HR
   go_wp2_with fail
   go_end0
   exact ⟨rfl,by rw [HR.out]; exact HA.out,hcw⟩
end Go.Proofs.YtheflbaejhlboaaGreatDoor
