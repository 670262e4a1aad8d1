/- A part of the proof of a law of package confluencetop: lemmas, no condition of ours. -/
import Derived.Test.YtheflbaejhlboaaGreatDoorTopUn17
import Derived.Test.YtheflbaejhlboaaGreatDoorTopUn16
set_option linter.unusedVariables false
set_option linter.unusedSectionVars false
set_option linter.unusedSimpArgs false
namespace Go.Proofs.YtheflbaejhlboaaGreatDoor.Ev
open Go
variable [Sig] {P:Program} {X:Nat→Nat→Prop}
def WX:List Bool→Nat
 | []=>0
 | b::l=>(if b=false then 1 else 0)+WX l
theorem PE:∀ {l:List Bool} {i:Nat},l[i]? = some false→WX (l.set i true)+1=WX l
 | [],i,h=>by simp at h
 | b::l,0,h=>by
  cases h
  simp [WX]
  omega
 | b::l,i+1,h=>by
  have:=PE (l:=l) (i:=i) (by simpa using h)
  simp only [List.set_cons_succ,WX]
  omega
theorem TM:∀ {l:List Bool} {i:Nat},WX l=0→l[i]? ≠ some false
 | [],i,_=>by simp
 | b::l,0,h=>by
  cases b
  ·simp [WX] at h
  ·simp
 | b::l,i+1,h=>by
  have:WX l=0:=by simp only [WX] at h; omega
  simpa using TM (i:=i) this
theorem PF:∀ n,WX (List.replicate n false)=n
 | 0=>rfl
 | n+1=>by
  rw [List.replicate_succ]
  simp only [WX,PF n]
  simp
  omega
section
variable {call:Zu} {K:ZF} {ops:Array Oper} {e0:Env} {vs:List Zc} {st:Nat→St}
variable {r0:Rho} {w0:World} {a0:Act} {m:Nat} {r:Rho} {a:Act} {w:World}
def Lst (l:Array Bool) (j:Nat):Prop:=l.getD j false=true
theorem LY {l:Array Bool} {i:Nat} (hi:i<l.size) (k:Nat):Lst (l.setIfInBounds i true) k↔Lst l k∨k=i:=by
 unfold Lst
 by_cases h:i=k
 ·subst h; simp [hi]
 ·rw [getD_set_ne false h]
  exact ⟨.inl,fun g=>g.resolve_right fun e=>h e.symm⟩
theorem Iv.next (hp:QM X P call K ops e0 vs st) (hcall:ZZ P call) (hr0:Rel r0 (st 0) w0) (he0:Qk K r0 e0 a0) {D D':Nat→Prop} (h:Iv P call K ops e0 vs st r0 w0 a0 D m r a w)
  (hm:m=ops.toList.length∨QW P ops m) {j:Nat} (hX:¬ X m j) {o:Oper} (ho:ops.toList[j]? = some o) (hD:¬ D j) (hr:∀ i,Xp (Zx ops.toList []) j i→D i) (hD':∀ k,D' k↔D k∨k=j)
  {Kn:Act→World→Prop} {Q:Exit→Act→World→Prop} (hK:∀ r' a' w' p,Iv P call K ops e0 vs st r0 w0 a0 D' p r' a' w'→Kn a' w'):wpOp P ops Q j Kn a w:=by
 have hjl:=(List.getElem?_eq_some_iff.1 ho).1
 have ho':ops[j]? = some o:=by rw [← Array.getElem?_toList]; exact ho
 obtain ⟨v,hv,hdi,hnx,hlow,hst⟩:=hp.step j o ho
 have hcx:=h.cx hp hr0 he0 ho hD hr
 have hwt:=Vt (r:=r.Qt (st j).next) (l:=(vs.take j).reverse) (e0:=e0) (co:=J5 ops j) (a:=a) (ops:=ops) (o:=o) fun t ht v' hv'=>h.read hp hr0 he0 ho hD hr (List.mem_append_right _ ht) hv'
 have tl:∀ {n},(r.Qt n).le r:=fun {n} i x hx=>(Rho.XD hx).2
 have effj:QW P ops j→j=m:=fun he=>by
  rcases hm with rfl | hm
  ·exact absurd ((h.WW j he).2 hjl) hD
  ·have h1:¬ j<m:=fun g=>hD ((h.WW j he).2 g)
   rcases Nat.lt_trichotomy j m with g | g | g
   ·exact absurd g h1
   ·exact g
   ·exact absurd ((h.WW m hm).1 (hr m (hp.WW m j g hX hm he))) (by omega)
 unfold wpOp
 rw [ho']
 simp only
 rcases hst with ⟨hw,hrun⟩ | ⟨hw,rfl,hs⟩
 ·rw [hwt.1 hw,if_pos rfl]
  refine .inl ?_
  have hop:=Rt hcall hrun
  cases hk:KG P o.op with
  | pure =>
   rw [hk] at hop
   obtain ⟨u,h1,h2⟩:=hop.2 _ w a hcx
   unfold Oper.wp
   rw [h1]
   refine hK r _ w m (h.quiet hp he0 ho hD hr hD' (fun ⟨o',g1,g2⟩ => ?_) (fun ⟨o',g1,g2,_⟩ => ?_) hdi hv (h2.mono tl))
   ·rw [ho] at g1; cases g1; rw [hk] at g2; cases g2
   ·rw [ho] at g1; cases g1; rw [hk] at g2; cases g2
  | look =>
   obtain ⟨s',hrun'⟩:=hp.look j o v ho hk hv hw m hm (fun i hi hb=>(h.WW i hi).1 (hr i hb)) (fun i hi him hb=>hD (h.closed i ((h.WW i hi).2 him) j hb))
   have hop':=Rt hcall hrun'
   rw [hk] at hop'
   have hrel:RelB r (st m) w:=⟨fun i b x hb hx=>by
    have hi:i<(st m).next:=h.ext.rel.below hb
    obtain ⟨ob,g1,g2⟩:=h.ext.rel.block i b x hb (by rw [Rho.Qf hi]; exact hx)
    exact ⟨ob,g1,g2.mono tl⟩,h.ext.rel.far⟩
   obtain ⟨u,h1,h2⟩:=hop'.2 r w a hrel fun x hx v' hv'=>(hcx x hx v' hv').mono tl
   unfold Oper.wp
   rw [h1]
   refine hK r _ w m (h.quiet hp he0 ho hD hr hD' (fun ⟨o',g1,g2⟩ => ?_) (fun ⟨o',g1,g2,_⟩ => ?_) hdi hv h2)
   ·rw [ho] at g1; cases g1; rw [hk] at g2; cases g2
   ·rw [ho] at g1; cases g1; rw [hk] at g2; cases g2
  | make =>
   rw [hk] at hop
   obtain ⟨mk,b,rfl,hb,hmk⟩:=hop
   obtain ⟨w',u,y,ob,h1,h2,h3,h4,h5,h6,h7,h8,h9⟩:=hmk _ w a hcx
   obtain ⟨h10,h11⟩:=h9 (st j).next (Rho.Xi (Nat.le_refl _))
   have hM:Made P ops e0 vs j:=⟨o,ho,hk,hw⟩
   obtain ⟨r',hiv⟩:=h.made hp hcall he0 ho hD hr hD' hM (fun e=>by
    subst e
    rcases hm with e | e
    ·omega
    ·exact hM.PB e) hdi hv hb h2.1 h2.2 h3 h4 h5 h6 h7 h8 h10 h11
   unfold Oper.wp
   rw [h1]
   exact hK r' _ w' m hiv
  | eff =>
   have he:QW P ops j:=⟨o,ho,by rw [hk]; rfl⟩
   have:=effj he
   subst this
   exact hop.ok h.ext.rel hcx _ _ fun q u w' hx hvr=>by
    obtain ⟨r',hiv⟩:=h.effect hp hcall he0 ho hD hr hD' he hdi hv hx hvr
    exact hK r' _ w' _ hiv
 ·rw [hwt.2 hw]
  simp only [Bool.false_eq_true,if_false]
  by_cases he:QW P ops j
  ·have:=effj he
   subst this
   exact hK r _ w _ (h.ZaH hp he0 ho hD hr hD' he hdi hv (.tuple .nil) hs)
  ·refine hK r _ w _ (h.quiet hp he0 ho hD hr hD' he (fun ⟨o',g1,_,g2⟩ => ?_) hdi hv (.tuple .nil))
   rw [ho] at g1; cases g1; rw [hw] at g2; cases g2
theorem WY {t:Tmp} {v:Zc}:∀ (L:List Oper) (vs:List Zc) (e:Env),vs.length=L.length→(Q8 K L vs e).get t=some v →
  (∃ i,ZN L i=some t∧(∀ k,i<k→ZN L k≠some t)∧vs[i]? = some v∧K.Zi t=true)∨(((∀ k,ZN L k≠some t)∨K.Zi t=false)∧e.get t=some v)
 | [],vs,e,_,h => .inr ⟨.inl fun k=>by simp [ZN],by cases vs <;> exact h⟩
 | o::L,[],e,hl,h=>by cases hl
 | o::L,u::vs,e,hl,h=>by
  have h:(Q8 K L vs (Kl e u (JT K o))).get t=some v:=h
  rcases WY L vs _ (by simpa using hl) h with ⟨i,h1,h2,h3,h4⟩ | ⟨h1,h2⟩
  ·refine .inl ⟨i+1,by simpa [ZN] using h1,fun k hk => ?_,by simpa using h3,h4⟩
   cases k with
   | zero=>omega
   | succ k=>simpa [ZN] using h2 k (by omega)
  ·unfold JT at h2
   cases hd:o.dst with
   | none =>
    rw [hd] at h2
    refine .inr ⟨h1.imp_left fun h1 k => ?_,h2⟩
    cases k with
    | zero=>simp [ZN,hd]
    | succ k=>simpa [ZN] using h1 k
   | some d =>
    rw [hd] at h2
    have h2:(Kl e u (sel (K.Zi d) (some (bits d)) none)).get t=some v:=h2
    cases hk:K.Zi d
    ·rw [hk] at h2
     refine .inr ⟨?_,h2⟩
     by_cases hdt:d=t
     ·subst hdt; exact .inr hk
     ·refine h1.imp_left fun h1 k => ?_
      cases k with
      | zero=>simp [ZN,hd,hdt]
      | succ k=>simpa [ZN] using h1 k
    ·rw [hk] at h2
     have h2:(e.set d (some u)).get t=some v:=h2
     rw [Jo] at h2
     by_cases hdt:d=t
     ·subst hdt
      rw [if_pos rfl] at h2
      cases h2
      rcases h1 with h1 | h1
      ·refine .inl ⟨0,by simp [ZN,hd],fun k hk' => ?_,rfl,hk⟩
       cases k with
       | zero=>omega
       | succ k=>simpa [ZN] using h1 k
      ·rw [hk] at h1; cases h1
     ·rw [if_neg hdt] at h2
      refine .inr ⟨h1.imp_left fun h1 k => ?_,h2⟩
      cases k with
      | zero=>simp [ZN,hd,hdt]
      | succ k=>simpa [ZN] using h1 k
theorem Iv.all (hp:QM X P call K ops e0 vs st) (hcall:ZZ P call) (he0:Qk K r0 e0 a0) {D:Nat→Prop} (h:Iv P call K ops e0 vs st r0 w0 a0 D m r a w) (hall:∀ j,j<ops.toList.length→D j) :
  ∃ q,Ext r0 (st 0) w0 q (st ops.toList.length) w∧Qk K q (Q8 K ops.toList vs e0) a:=by
 obtain ⟨p,hiv,hpe⟩:=h.full hp hcall _ rfl
 have hpN:p=ops.toList.length:=by
  rcases hpe with g | g
  ·exact g
  ·have g':=g
   obtain ⟨o,h1,_⟩:=g'
   have hl:=(List.getElem?_eq_some_iff.1 h1).1
   have:=(hiv.WW p g).1 (hall p hl)
   omega
 subst hpN
 have tl:∀ {i x},r i=some x→i<(st ops.toList.length).next:=fun {i x} hx=>by
  rcases hiv.known i x hx with g | ⟨k,g1,g2,g3,g4⟩
  ·exact g
  ·have:=g3.lt; omega
 have ht:r.Qt (st ops.toList.length).next=r:=Rho.LW fun i x=>tl
 have hext:=hiv.ext
 rw [ht] at hext
 refine ⟨r,hext,fun t v hv => ?_,by rw [hiv.size]; exact he0.size,hiv.defs⟩
 have lt:∀ {k},ZN ops.toList k=some t→k<ops.toList.length:=fun {k} hk=>by
  unfold ZN at hk
  rw [Option.bind_eq_some_iff] at hk
  obtain ⟨o,h1,_⟩:=hk
  exact (List.getElem?_eq_some_iff.1 h1).1
 rcases WY ops.toList vs e0 hp.len hv with ⟨i,h1,h2,h3,h4⟩ | ⟨h1,h2⟩
 ·exact ⟨h4,hiv.PC i t v (hall i (lt h1)) h1 (fun k hk _=>h2 k hk) h3⟩
 ·obtain ⟨h3,h4⟩:=he0.env t v h2
  rcases h1 with h1 | h1
  ·exact ⟨h3,by rw [hiv.PD t fun k _=>h1 k]; exact h4.mono hext.le⟩
  ·rw [h1] at h3; cases h3
theorem ZaI (hp:QM X P call K ops e0 vs st) (hcall:ZZ P call) (hr0:Rel r0 (st 0) w0) (he0:Qk K r0 e0 a0) {Q:Exit→Act→World→Prop}
  (hQ:∀ q a' w',Ext r0 (st 0) w0 q (st ops.toList.length) w'→Qk K q (Q8 K ops.toList vs e0) a'→Q .normal a' w')
  (hS:∀ (fuel:Nat) (listed:Array Bool) (m j:Nat) (r:Rho) (a:Act) (w:World),listed.size=ops.size→WX (listed.setIfInBounds j true).toList≤fuel→Iv P call K ops e0 vs st r0 w0 a0 (Lst listed) m r a w→X m j→(m=ops.toList.length∨QW P ops m) →
   ¬ Lst listed j→(∀ i,Xp (Zx ops.toList []) j i→Lst listed i)→wpOp P ops Q j (fun a w=>wpAny P .any ops Q fuel (listed.setIfInBounds j true) a w) a w):∀ (fuel:Nat) (listed:Array Bool) (m:Nat) (r:Rho) (a:Act) (w:World),listed.size=ops.size →
  WX listed.toList≤fuel→Iv P call K ops e0 vs st r0 w0 a0 (Lst listed) m r a w→wpAny P .any ops Q fuel listed a w:=by
 have done:∀ (listed:Array Bool) (m:Nat) (r:Rho) (a:Act) (w:World),listed.size=ops.size→Iv P call K ops e0 vs st r0 w0 a0 (Lst listed) m r a w→Region.ready .any ops listed=[]→Q .normal a w:=by
  intro listed m r a w hsz hiv hrdy
  have hall:∀ j,j<ops.toList.length→Lst listed j:=by
   intro j
   induction j using Nat.strongRecOn with
   | ind j ih =>
    intro hj
    apply Classical.byContradiction
    intro hn
    have hjl:j<listed.size:=by rw [hsz]; simpa using hj
    have ho:ops.toList[j]? = some ops.toList[j]:=List.getElem?_eq_getElem hj
    have hin:j∈Region.ready .any ops listed:=mem_ready.2 ⟨by
     unfold Lst at hn
     simp [hjl] at hn ⊢
     exact hn,_,by rw [← Array.getElem?_toList]; exact ho,fun e he hb=>by
     have hlt:=hp.back j _ ho e (Array.mem_toList_iff.2 he) hb
     exact ih e.on hlt (by omega)⟩
    rw [hrdy] at hin
    cases hin
  obtain ⟨q,h1,h2⟩:=hiv.all hp hcall he0 hall
  exact hQ q a w h1 h2
 intro fuel
 induction fuel with
 | zero =>
  intro listed m r a w hsz hc hiv
  have hnil:Region.ready .any ops listed=[]:=by
   cases hx:Region.ready .any ops listed with
   | nil=>rfl
   | cons j l =>
    have hj:j∈Region.ready .any ops listed:=by rw [hx]; exact List.mem_cons_self ..
    obtain ⟨h0,o,ho,_⟩:=mem_ready.1 hj
    have hjl:j<listed.size:=by rw [hsz]; exact (Array.getElem?_eq_some_iff.1 ho).1
    refine absurd ?_ (TM (l:=listed.toList) (i:=j) (by omega))
    rw [Array.getElem?_toList,Array.getElem?_eq_getElem hjl]
    simp [hjl] at h0
    rw [h0]
  exact ⟨hnil,done listed m r a w hsz hiv hnil⟩
 | succ fuel ih =>
  intro listed m r a w hsz hc hiv
  refine ⟨done listed m r a w hsz hiv,fun j hj => ?_⟩
  obtain ⟨h0,o,ho,hall⟩:=mem_ready.1 hj
  have hjs:j<ops.size:=(Array.getElem?_eq_some_iff.1 ho).1
  have hjl:j<listed.size:=by rw [hsz]; exact hjs
  have hlf:listed.toList[j]? = some false:=by
   rw [Array.getElem?_toList,Array.getElem?_eq_getElem hjl]
   simp [hjl] at h0
   rw [h0]
  have ho':ops.toList[j]? = some o:=by rw [Array.getElem?_toList]; exact ho
  obtain ⟨p,hiv',hpe⟩:=hiv.full hp hcall _ rfl
  have hnl:¬ Lst listed j:=fun g=>by
   unfold Lst at g
   simp [hjl] at h0 g
   rw [h0] at g
   cases g
  have hcl:=Y4 hiv'.closed ho' fun e he hb=>hall e (Array.mem_toList_iff.1 he) hb
  have hcn:WX (listed.setIfInBounds j true).toList≤fuel:=by
   have:=PE hlf
   rw [Array.toList_setIfInBounds]
   omega
  by_cases hX:X p j
  ·exact hS fuel listed p j r a w hsz hcn hiv' hX hpe hnl hcl
  refine hiv'.next hp hcall hr0 he0 hpe hX (D':=Lst (listed.setIfInBounds j true)) ho' hnl hcl (LY hjl) fun r' a' w' p' hiv2 => ?_
  exact ih _ p' r' a' w' (by simpa using hsz) hcn hiv2
end
theorem ZaJ (hm:P.follows .mixedOrders=true) {call:Zu} {K:ZF} (hcall:ZZ P call) {id:Nat} {ops:Array Oper} (hg:GI P ops (QH P ops ops.toList (Zx ops.toList []))=true) :
  Qz P K (.region id ops true) (Sj (Qi P call K ops (QH P ops ops.toList (Zx ops.toList [])) ops.toList (QH P ops ops.toList (Zx ops.toList [])) 0 .nil)):=by
 intro e s x e' s' h r w a Q hr he hQ
 obtain ⟨rfl,vs,st,hp,rfl,rfl,rfl⟩:=Zc7 hg h
 refine wp_region_any hm ?_
 have hr':Rel r (st 0) { w with drawn:=w.drawn+1 }:=hr.drawn _
 have hst:=Iv.start (r0:=r) (w0:={ w with drawn:=w.drawn+1 }) (a0:=a) hp hr' he.defers
 refine ZaI hp hcall hr' he (fun q a' w' hx he'=>hQ q a' w' ((Ext.drawn hr _).trans hx) he') (fun _ _ _ _ _ _ _ _ _ _ h=>h.elim) ops.size _ 0 r a _ (by simp) (by rw [Array.toList_replicate,PF]; exact Nat.le_refl _) ?_
 have:Lst (Array.replicate ops.size false)=fun _=>False:=by
  funext j
  unfold Lst
  simp [Array.getElem?_replicate]
  split <;> simp
 rw [this]
 exact hst
end Go.Proofs.YtheflbaejhlboaaGreatDoor.Ev
namespace Go.Proofs.YtheflbaejhlboaaGreatDoor.Ev
open Go
variable [Sig] {P:Program} {X:Nat→Nat→Prop}
theorem Ext.forget {r q:Rho} {s t t':St} {w u:World} (h:Ext r s w q t u) (hs:∀ i b,t'.get i=some b→t.get i=some b) (hn:t'.next=t.next):Ext r s w q t' u where
 rel:=⟨⟨fun i b x hb hx=>h.rel.block i b x (hs i b hb) hx,fun i hi=>by
   cases e:t'.get i with
   | none=>rfl
   | some b=>have:=hs i b e; rw [h.rel.far i (hn▸hi)] at this; cases this⟩,
  fun i j b c x y hb hc=>h.rel.apart i j b c x y (hs i b hb) (hs j c hc),fun i x hx=>hn▸h.rel.known i x hx,
  fun i x g hx hg=>(h.rel.safe i x g hx hg).step (Nat.le_refl _) (fun _ _ _=>rfl) fun k ⟨i,b,x,hb,hx,hk⟩ => .inl ⟨i,b,x,hs i b hb,hx,hk⟩⟩
 le:=h.le
 next:=hn▸h.next
 os:=h.os
 tape:=h.tape
 output:=h.output
 size:=h.size
 frame:=h.frame
 still:=fun i hi hr b hb=>h.still i hi hr b (hs i b hb)
 dead:=fun i hi hg=>by
  cases e:t'.get i with
  | none=>rfl
  | some b=>have:=hs i b e; rw [h.dead i hi hg] at this; cases this
 Xs:=fun k ⟨i,b,x,hb,hx,hk⟩=>h.Xs k ⟨i,b,x,hs i b hb,hx,hk⟩
 fresh:=h.fresh
 Kz:=h.Kz
theorem Nf {p:Pt} {a x:Z9} {l:List Zc} {e:Env} {s s':St} {v:Zc} (h:Xy p a x l e s = .ok v s') :
  ∃ id b,idV (Zn l e a)=some id∧v=Qu∧s'=s.put id b∧∀ t:St,t.get id=s.get id→Xy p a x l e t = .ok v (t.put id b):=by
 cases hx:Zn l e x with
 | bad=>unfold Xy at h; rw [hx] at h; cases h
 | ok u =>
  cases ha:Zn l e a with
  | bad=>unfold Xy at h; rw [hx,ha] at h; cases h
  | ok c =>
   have hs:∀ t:St,Xy p a x l e t=Ty t p u c:=fun t=>by unfold Xy; rw [hx,ha]; rfl
   rw [hs s] at h
   unfold Ty at h
   split at h
   ·rename_i id off
    have h:Tx s p u id off (Db (s.get id)) = .ok v s':=h
    have hs':∀ t:St,t.get id=s.get id→Xy p a x l e t=Tx t p u id off (Db (s.get id)):=fun t ht=>by
     rw [hs t]
     show Tx t p u id off (Db (t.get id))=_
     rw [ht]
    generalize Db (s.get id)=c at h hs'
    cases c with
    | bad=>cases h
    | mk cs ez o =>
     cases p with
     | bad=>cases h
     | mk fo n g =>
      have h:sel (Kj u.cells n) (putCells s id ez o (splice cs off u.cells)) .bad = .ok v s':=h
      have hs'':∀ t:St,t.get id=s.get id→Xy (.mk fo n g) a x l e t=sel (Kj u.cells n) (putCells t id ez o (splice cs off u.cells)) .bad:=hs'
      cases hl:Kj u.cells n
      ·rw [hl] at h; cases h
      ·rw [hl] at h hs''
       cases hsp:splice cs off u.cells with
       | none=>rw [hsp] at h; cases h
       | some cs' =>
        rw [hsp] at h hs''
        cases h
        exact ⟨id,_,rfl,rfl,rfl,hs''⟩
   ·cases h
theorem GW {p:Nat}:∀ (l:List DI) (i:Nat) (r:Option Nat),Zat l i r=some p→r=some p∨(i≤p∧p<i+l.length)
 | [],i,r,h => .inl h
 | x::l,i,r,h=>by
  rcases GW l (i+1) _ h with h1 | ⟨h1,h2⟩
  ·cases hx:x.eff
   ·rw [hx] at h1; exact .inl h1
   ·rw [hx] at h1; cases h1; exact .inr ⟨Nat.le_refl _,by rw [List.length_cons]; omega⟩
  ·exact .inr ⟨by omega,by rw [List.length_cons]; omega⟩
theorem PG {p bf:Nat}:∀ (l:List DI) (i:Nat),Sk p bf l i=true→∀ k x,l[k]? = some x→x.eff=true→i+k=p∨Nat.testBit bf (i+k)=true
 | [],_,_,k,x,hx,_=>by simp at hx
 | y::l,i,h,k,x,hx,he=>by
  have h:sel (sel y.eff (sel (Nat.beq i p) true (Nat.testBit bf i)) true) (Sk p bf l (i+1)) false=true:=h
  rcases Ze h with ⟨h1,h2⟩ | ⟨_,h2⟩
  ·cases k with
   | zero =>
    cases hx
    rw [he] at h1
    have h1:sel (Nat.beq i p) true (Nat.testBit bf i)=true:=h1
    rcases Ze h1 with ⟨g1,_⟩ | ⟨_,g2⟩
    ·exact .inl (Nat.eq_of_beq_eq_true g1)
    ·exact .inr g2
   | succ k =>
    have:=PG l (i+1) h2 k x (by simpa using hx) he
    rw [show i+(k+1)=i+1+k by omega]
    exact this
  ·cases h2
theorem Zft {k:Kd} (h:k.isP=true):k = .pure:=by cases k <;> first | rfl | cases h
theorem GX {p bf:Nat}:∀ (l:List Oper) (i:Nat),C3 P p bf l i=true→∀ k o,l[k]? = some o→i+k=p∨KG P o.op = .pure∨(i+k≤p∧Nat.testBit bf (i+k)=true)
 | [],_,_,k,x,hx=>by simp at hx
 | y::l,i,h,k,x,hx=>by
  have h:sel (sel (Nat.beq i p) true (sel (KG P y.op).isP true (sel (Nat.blt p i) false (Nat.testBit bf i)))) (C3 P p bf l (i+1)) false=true:=h
  rcases Ze h with ⟨h1,h2⟩ | ⟨_,h2⟩
  ·cases k with
   | zero =>
    cases hx
    rcases Ze h1 with ⟨g1,_⟩ | ⟨_,g2⟩
    ·exact .inl (Nat.eq_of_beq_eq_true g1)
    ·rcases Ze g2 with ⟨g1,_⟩ | ⟨_,g2⟩
     ·exact .inr (.inl (Zft g1))
     ·rcases Ze g2 with ⟨_,g2⟩ | ⟨g1,g2⟩
      ·cases g2
      ·refine .inr (.inr ⟨?_,g2⟩)
       have:¬ p<i+0:=fun hlt=>by
        have h3:Nat.blt p i=true:=Nat.ble_eq_true_of_le hlt
        rw [h3] at g1; cases g1
       omega
   | succ k =>
    have:=GX l (i+1) h2 k x (by simpa using hx)
    rw [show i+(k+1)=i+1+k by omega]
    exact this
  ·cases h2
theorem Ng {o:Oper} {a:Operand} (h:XK o=some a):∃ t x,o.op = .store t a x∧o.guard=none:=by
 unfold XK at h
 split at h
 ·rename_i h1 h2
  cases h
  exact ⟨_,_,h1,h2⟩
 ·cases h
theorem Nh {α : Type} {o:Option α} (h:isSome o=true):∃ a,o=some a:=by
 cases o with
 | none=>cases h
 | some a=>exact ⟨a,rfl⟩
structure Zer (P:Program) (ops:Array Oper) (e0:Env) (vs:List Zc) (p n:Nat):Prop where
 len:ops.toList.length=n+1
 lt:p<n
 st1:∃ o t a x,ops.toList[p]? = some o∧o.op = .store t a x∧o.guard=none
 st2:∃ o t a x,ops.toList[n]? = some o∧o.op = .store t a x∧o.guard=none
 pure:∀ i o,i<n→ops.toList[i]? = some o→i=p∨KG P o.op = .pure∨(i≤p∧Xp (Zx ops.toList []) n i)
 apart:∃ i j,MF ops e0 vs p=some i∧MF ops e0 vs n=some j∧i≠j
theorem ZaK {call:Zu} {K:ZF} {ops:Array Oper} {e0 e':Env} {s s':St} {x:Ex} {p:Nat} (hg:GJ P ops (QH P ops ops.toList (Zx ops.toList []))=some p)
  (h:C4 ops p (Qi P call K ops (QH P ops ops.toList (Zx ops.toList [])) ops.toList (QH P ops ops.toList (Zx ops.toList [])) 0 .nil) e0 s = .ok x e' s') :
  x = .normal∧∃ (vs:List Zc) (st:Nat→St) (n:Nat),QM (fun i j=>i=p∧j=n) P call K ops e0 vs st∧st 0=s∧st ops.toList.length=s'∧e'=Q8 K ops.toList vs e0∧Zer P ops e0 vs p n:=by
 have hdl:=K8 (P:=P) (ops:=ops) ops.toList (Zx ops.toList []) (Pz ops.toList)
 have hat:∀ j o,ops.toList[j]? = some o→∃ b,(Zx ops.toList [])[j]? = some b∧(QH P ops ops.toList (Zx ops.toList []))[j]? = some (Pb P ops o b):=fun j o hj=>by
  obtain ⟨b,hb⟩:=ZaG ops.toList (List.getElem?_eq_some_iff.1 hj).1
  exact ⟨b,hb,Pv ops.toList _ j hj hb⟩
 generalize hdis:QH P ops ops.toList (Zx ops.toList [])=dis at h hg hdl hat
 have h:runT ops p e0 (Qi P call K ops dis ops.toList dis 0 .nil) (MC e0 (Qi P call K ops dis ops.toList dis 0 .nil) [] e0 s []) = .ok x e' s':=h
 unfold GJ at hg
 split at hg
 ·rename_i y p' o hy hp' ho
  rcases Ze hg with ⟨g1,hg⟩ | ⟨_,hg⟩
  ·rcases Ze hg with ⟨g2,hg⟩ | ⟨_,hg⟩
   ·rcases Ze hg with ⟨g3,hg⟩ | ⟨_,hg⟩
    ·rcases Ze hg with ⟨g4,hg⟩ | ⟨_,hg⟩
     ·rcases Ze hg with ⟨g5,hg⟩ | ⟨_,hg⟩
      ·rcases Ze hg with ⟨g6,hg⟩ | ⟨_,hg⟩
       ·cases hg
        have hpos:0<dis.length:=by
         cases dis with
         | nil=>cases hy
         | cons _ _=>exact Nat.succ_pos _
        obtain ⟨n,hn⟩:∃ n,dis.length=n+1:=⟨dis.length-1,by omega⟩
        have hyn:dis[n]? = some y:=by rw [List.getLast?_eq_getElem?,hn] at hy; exact hy
        have hon:ops.toList[n]? = some o:=by rw [List.getLast?_eq_getElem?,← hdl,hn] at ho; exact ho
        have hdrop:∀ {i},i<n→dis.dropLast[i]? = dis[i]? := fun {i} hi=>by
         rw [List.getElem?_dropLast,hn,if_pos (by omega)]
        have hodrop:∀ {i},i<n→ops.toList.dropLast[i]? = ops.toList[i]? := fun {i} hi=>by
         rw [List.getElem?_dropLast,← hdl,hn,if_pos (by omega)]
        have hdlen:dis.dropLast.length=n:=by rw [List.length_dropLast,hn]; rfl
        have hcl:∀ i j x y,i<j→dis[i]? = some x→dis[j]? = some y→J4 x (MD y)=true→Nat.testBit y.bf i=true:=fun i j x z hij hi hj hc=>by
         have hjn:j≤n:=by have:=(List.getElem?_eq_some_iff.1 hj).1; omega
         have hi':(dis.dropLast++[MD y])[i]? = some x:=by rw [List.getElem?_append_left (by omega),hdrop (by omega)]; exact hi
         rcases Nat.lt_or_ge j n with hlt | hge
         ·refine XO _ [] g2 j z (by rw [List.getElem?_append_left (by omega),hdrop hlt]; exact hj) i x (by rw [List.nil_append]; exact hi') (by simpa using hij) (Na hc)
         ·have:j=n:=by omega
          subst this
          rw [hyn] at hj
          cases hj
          exact XO _ [] g2 j (MD y) (by rw [List.getElem?_append_right (by omega),hdlen]; simp) i x (by rw [List.nil_append]; exact hi') (by simpa using hij) hc
        have hef:∀ i j x y,i<j→¬ (i=p∧j=n)→dis[i]? = some x→dis[j]? = some y→x.eff=true→y.eff=true→Nat.testBit y.bf i=true:=fun i j x z hij hX hi hj hx hz=>by
         have hjn:j≤n:=by have:=(List.getElem?_eq_some_iff.1 hj).1; omega
         rcases Nat.lt_or_ge j n with hlt | hge
         ·refine XO _ [] g2 j z (by rw [List.getElem?_append_left (by omega),hdrop hlt]; exact hj) i x (by rw [List.nil_append,List.getElem?_append_left (by omega),hdrop (by omega)]; exact hi) (by simpa using hij) (Px hx hz)
         ·have:j=n:=by omega
          subst this
          rw [hyn] at hj
          cases hj
          rcases PG _ 0 g3 i x (by rw [hdrop (by omega)]; exact hi) hx with g | g
          ·exact absurd ⟨by omega,rfl⟩ hX
          ·rw [Nat.zero_add] at g; exact g
        cases hr:MC e0 (Qi P call K ops dis ops.toList dis 0 .nil) [] e0 s [] with
        | bad=>rw [hr] at h; cases h
        | ok L E S SS =>
         rw [hr] at h
         have h:sel (LG (MF ops e0 L.reverse p) (MF ops e0 L.reverse (L.length-1))) (Pf e0 (Qi P call K ops dis ops.toList dis 0 .nil) (.ok L E S SS)) .bad = .ok x e' s':=h
         rcases Ze h with ⟨hu,h⟩ | ⟨_,h⟩
         ·obtain ⟨h1,vs,st,h2,h3,h4,h5,h6⟩:=Nb (X:=fun i j=>i=p∧j=n) hdis hr h g1 hcl hef
          refine ⟨h1,vs,st,n,h2,h3,h4,h5,⟨by omega,?_,?_,?_,?_,?_⟩⟩
          ·rcases GW _ _ _ hp' with g | ⟨_,g⟩
           ·cases g
           ·rw [hdlen] at g; omega
          ·obtain ⟨a,ha⟩:=Nh g6
           rw [Option.bind_eq_some_iff] at ha
           obtain ⟨o',g7,g8⟩:=ha
           obtain ⟨t,z,g9,g10⟩:=Ng g8
           exact ⟨o',t,a,z,g7,g9,g10⟩
          ·obtain ⟨a,ha⟩:=Nh g5
           obtain ⟨t,z,g9,g10⟩:=Ng ha
           exact ⟨o,t,a,z,hon,g9,g10⟩
          ·intro i o' hi ho'
           obtain ⟨b,hb1,hb2⟩:=hat n o hon
           rw [hyn] at hb2
           cases hb2
           rcases GX _ 0 g4 i o' (by rw [hodrop hi]; exact ho') with g | g | ⟨g,g'⟩
           ·exact .inl (by omega)
           ·exact .inr (.inl g)
           ·rw [Nat.zero_add] at g g'
            exact .inr (.inr ⟨g,b,hb1,g'⟩)
          ·have hL:L.length-1=n:=by
            have:=h2.len
            rw [h6,List.length_reverse] at this
            omega
           rw [hL,← h6] at hu
           unfold LG at hu
           split at hu
           ·rename_i i j hi hj
            refine ⟨i,j,hi,hj,fun e => ?_⟩
            subst e
            rw [Nat.beq_refl] at hu
            cases hu
           ·cases hu
         ·cases h
       ·cases hg
      ·cases hg
     ·cases hg
    ·cases hg
   ·cases hg
  ·cases hg
 ·cases hg
end Go.Proofs.YtheflbaejhlboaaGreatDoor.Ev
namespace Go.Proofs.YtheflbaejhlboaaGreatDoor.Ev
open Go
variable [Sig] {P:Program} {X:Nat→Nat→Prop}
section
variable {call:Zu} {K:ZF} {ops:Array Oper} {e0:Env} {vs:List Zc} {st:Nat→St}
variable {r0:Rho} {w0:World} {a0:Act} {D D':Nat→Prop} {m:Nat} {r:Rho} {a:Act} {w:World}
structure Ia (ops:Array Oper) (vs:List Zc) (r0:Rho) (a0:Act) (D:Nat→Prop) (r:Rho) (a:Act):Prop where
 closed:LP (Zx ops.toList []) D
 le:r0.le r
 PC:∀ i t v,D i→ZN ops.toList i=some t→(∀ k,i<k→D k→ZN ops.toList k≠some t)→vs[i]? = some v→VR r v (a.tmps.getD t undef)
 PD:∀ t,(∀ k,D k→ZN ops.toList k≠some t)→a.tmps.getD t undef=a0.tmps.getD t undef
 size:a.tmps.size=a0.tmps.size
 defs:a.defers=[]
theorem Iv.ia (h:Iv P call K ops e0 vs st r0 w0 a0 D m r a w):Ia ops vs r0 a0 D r a :=
 ⟨h.closed,fun i x hx=>(Rho.XD (h.ext.le i x hx)).2,h.PC,h.PD,h.size,h.defs⟩
theorem Ia.cx (hp:QM X P call K ops e0 vs st) (he0:Qk K r0 e0 a0) (h:Ia ops vs r0 a0 D r a) {j:Nat} {o:Oper} (ho:ops.toList[j]? = some o) (hD:¬ D j)
  (hr:∀ i,Xp (Zx ops.toList []) j i→D i) {t:Tmp} (ht:t∈LQ ops o) {v:Zc} (hv:Zn (vs.take j).reverse e0 (J5 ops j (.tmp t)) = .ok v):VR r v (a.tmps.getD t undef):=by
 have hjl:=(List.getElem?_eq_some_iff.1 ho).1
 have behind:∀ k,j<k→D k→ZN ops.toList k≠some t:=fun k hjk hDk hk=>hD (h.closed k hDk j ((hp.reads k j o t ho ht hk).2 hjk))
 rcases Ps (Nat.le_of_lt hjl) hp.len hv with ⟨i,hij,hdi,hlast,hvi⟩ | ⟨hnone,hget⟩
 ·have hDi:D i:=hr i ((hp.reads i j o t ho ht hdi).1 hij)
  exact h.PC i t v hDi hdi (fun k hik hDk hk=>by
   rcases Nat.lt_trichotomy k j with g | g | g
   ·exact hlast k hik g hk
   ·subst g; exact hD hDk
   ·exact behind k g hDk hk) hvi
 ·rw [h.PD t fun k hDk hk=>by
   rcases Nat.lt_trichotomy k j with g | g | g
   ·exact hnone k g hk
   ·subst g; exact hD hDk
   ·exact behind k g hDk hk]
  exact (he0.env t v hget).2.mono h.le
theorem Ia.cxs (hp:QM X P call K ops e0 vs st) (he0:Qk K r0 e0 a0) (h:Ia ops vs r0 a0 D r a) {j:Nat} {o:Oper} (ho:ops.toList[j]? = some o) (hD:¬ D j)
  (hr:∀ i,Xp (Zx ops.toList []) j i→D i):Cx r (vs.take j).reverse e0 (J5 ops j) a o.op:=by
 intro x hx v hv
 cases x with
 | tmp t=>exact h.cx hp he0 ho hD hr (List.mem_append_left _ (Xa (Array.mem_toList_iff.2 hx))) hv
 | const u =>
  have hv:Zn (vs.take j).reverse e0 (RT u) = .ok v:=hv
  unfold RT at hv
  split at hv
  ·rename_i b hb
   cases hv
   exact TC _ u _ hb
  ·cases hv
 | func f =>
  cases hv
  exact .func f .nil .nil
 | _=>cases hv
theorem Ia.put (hp:QM X P call K ops e0 vs st) (he0:Qk K r0 e0 a0) (h:Ia ops vs r0 a0 D r a) {j:Nat} {o:Oper} (ho:ops.toList[j]? = some o) (hdi:Qr K o=true) (hD:¬ D j)
  (hr:∀ i,Xp (Zx ops.toList []) j i→D i) (hD':∀ k,D' k↔D k∨k=j) {r':Rho} (hle:r.le r') {v:Zc} {u:Value} (hv:vs[j]? = some v) (hvr:VR r' v u):Ia ops vs r0 a0 D' r' (a.put o.dst u):=by
 have hdst:ZN ops.toList j=o.dst:=by unfold ZN; rw [ho]; rfl
 have hDj:D' j:=(hD' j).2 (.inr rfl)
 have ne:∀ {t},o.dst≠some t→(a.put o.dst u).tmps.getD t undef=a.tmps.getD t undef:=fun {t} hn=>by
  cases hd:o.dst with
  | none=>rfl
  | some d=>exact QV fun e=>hn (by rw [hd,e])
 refine ⟨fun k hk i hi => ?_,Rho.le_trans h.le hle,fun i t v' hDi hit hlast hvi => ?_,fun t hn => ?_,by rw [Y1]; exact h.size,by rw [Y2]; exact h.defs⟩
 ·rcases (hD' k).1 hk with g | g
  ·exact (hD' i).2 (.inl (h.closed k g i hi))
  ·subst g; exact (hD' i).2 (.inl (hr i hi))
 ·by_cases hij:i=j
  ·subst hij
   rw [hv] at hvi
   cases hvi
   rw [hdst] at hit
   rw [hit]
   rw [Ji]
   ·exact hvr
   ·unfold Qr at hdi
    rw [hit] at hdi
    rw [h.size]
    exact Nat.lt_of_lt_of_le (Qy hdi) he0.size
  ·have hDi':D i:=((hD' i).1 hDi).resolve_right hij
   have hn:o.dst≠some t:=fun e=>by
    rcases Nat.lt_or_ge i j with g | g
    ·exact hlast j g hDj (by rw [hdst,e])
    ·exact hD (h.closed i hDi' j (hp.writes j i t (by omega) (by rw [hdst,e]) hit))
   rw [ne hn]
   exact (h.PC i t v' hDi' hit (fun k hik hDk=>hlast k hik ((hD' k).2 (.inl hDk))) hvi).mono hle
 ·rw [ne (fun e=>hn j hDj (by rw [hdst,e]))]
  exact h.PD t fun k hDk=>hn k ((hD' k).2 (.inl hDk))
theorem Ia.env (hp:QM X P call K ops e0 vs st) (he0:Qk K r0 e0 a0) (h:Ia ops vs r0 a0 D r a) (hall:∀ j,j<ops.toList.length→D j):Qk K r (Q8 K ops.toList vs e0) a:=by
 refine ⟨fun t v hv => ?_,by rw [h.size]; exact he0.size,h.defs⟩
 have lt:∀ {k},ZN ops.toList k=some t→k<ops.toList.length:=fun {k} hk=>by
  unfold ZN at hk
  rw [Option.bind_eq_some_iff] at hk
  obtain ⟨o,h1,_⟩:=hk
  exact (List.getElem?_eq_some_iff.1 h1).1
 rcases WY ops.toList vs e0 hp.len hv with ⟨i,h1,h2,h3,h4⟩ | ⟨h1,h2⟩
 ·exact ⟨h4,h.PC i t v (hall i (lt h1)) h1 (fun k hk _=>h2 k hk) h3⟩
 ·obtain ⟨h3,h4⟩:=he0.env t v h2
  rcases h1 with h1 | h1
  ·exact ⟨h3,by rw [h.PD t fun k _=>h1 k]; exact h4.mono h.le⟩
  ·rw [h1] at h3; cases h3
theorem DO (hp:QM X P call K ops e0 vs st) {listed:Array Bool} (hsz:listed.size=ops.size) (hrdy:Region.ready .any ops listed=[]):∀ j,j<ops.toList.length→Lst listed j:=by
 intro j
 induction j using Nat.strongRecOn with
 | ind j ih =>
  intro hj
  apply Classical.byContradiction
  intro hn
  have hjl:j<listed.size:=by rw [hsz]; simpa using hj
  have ho:ops.toList[j]? = some ops.toList[j]:=List.getElem?_eq_getElem hj
  have hin:j∈Region.ready .any ops listed:=mem_ready.2 ⟨by
   unfold Lst at hn
   simp [hjl] at hn ⊢
   exact hn,_,by rw [← Array.getElem?_toList]; exact ho,fun e he hb=>by
   have hlt:=hp.back j _ ho e (Array.mem_toList_iff.2 he) hb
   exact ih e.on hlt (by omega)⟩
  rw [hrdy] at hin
  cases hin
theorem Zc9 (hp:QM X P call K ops e0 vs st) (hcall:ZZ P call) (he0:Qk K r0 e0 a0) {Q:Exit→Act→World→Prop} {s2 s3:St} {p:Nat} {op:Oper} (hop:ops.toList[p]? = some op)
  (hQ:∀ q a' w',Ext r0 (st 0) w0 q (st ops.toList.length) w'→Qk K q (Q8 K ops.toList vs e0) a'→Q .normal a' w')
  {v1:Zc} (hv1:vs[p]? = some v1) (hrun:(comp (J5 ops p) P call op.op).run (vs.take p).reverse e0 s2 = .ok v1 s3) (hgd:op.guard=none) (hkd:KG P op.op = .eff)
  (hs3:∀ i b,(st ops.toList.length).get i=some b→s3.get i=some b) (hn3:(st ops.toList.length).next=s3.next) (hdi1:Qr K op=true) :
  ∀ (fuel:Nat) (listed:Array Bool) (r:Rho) (a:Act) (w:World),listed.size=ops.size→WX listed.toList≤fuel→Ia ops vs r0 a0 (Lst listed) r a →
   (∀ j o,ops.toList[j]? = some o→¬ Lst listed j→j=p∨KG P o.op = .pure)→((¬ Lst listed p∧Ext r0 (st 0) w0 r s2 w)∨(Lst listed p∧Ext r0 (st 0) w0 r (st ops.toList.length) w)) →
   wpAny P .any ops Q fuel listed a w:=by
 have done:∀ (listed:Array Bool) (r:Rho) (a:Act) (w:World),listed.size=ops.size→Ia ops vs r0 a0 (Lst listed) r a→((¬ Lst listed p∧Ext r0 (st 0) w0 r s2 w)∨(Lst listed p∧Ext r0 (st 0) w0 r (st ops.toList.length) w)) →
   Region.ready .any ops listed=[]→Q .normal a w:=by
  intro listed r a w hsz hia hex hrdy
  have hall:=DO hp hsz hrdy
  rcases hex with ⟨g,_⟩ | ⟨_,hx⟩
  ·exact absurd (hall p (List.getElem?_eq_some_iff.1 hop).1) g
  ·exact hQ r a w hx (hia.env hp he0 hall)
 intro fuel
 induction fuel with
 | zero =>
  intro listed r a w hsz hc hia hpu hex
  have hnil:Region.ready .any ops listed=[]:=by
   cases hx:Region.ready .any ops listed with
   | nil=>rfl
   | cons j l =>
    have hj:j∈Region.ready .any ops listed:=by rw [hx]; exact List.mem_cons_self ..
    obtain ⟨h0,o,ho,_⟩:=mem_ready.1 hj
    have hjl:j<listed.size:=by rw [hsz]; exact (Array.getElem?_eq_some_iff.1 ho).1
    refine absurd ?_ (TM (l:=listed.toList) (i:=j) (by omega))
    rw [Array.getElem?_toList,Array.getElem?_eq_getElem hjl]
    simp [hjl] at h0
    rw [h0]
  exact ⟨hnil,done listed r a w hsz hia hex hnil⟩
 | succ fuel ih =>
  intro listed r a w hsz hc hia hpu hex
  refine ⟨done listed r a w hsz hia hex,fun j hj => ?_⟩
  obtain ⟨h0,o,ho,hall⟩:=mem_ready.1 hj
  have hjs:j<ops.size:=(Array.getElem?_eq_some_iff.1 ho).1
  have hjl:j<listed.size:=by rw [hsz]; exact hjs
  have hlf:listed.toList[j]? = some false:=by
   rw [Array.getElem?_toList,Array.getElem?_eq_getElem hjl]
   simp [hjl] at h0
   rw [h0]
  have ho':ops.toList[j]? = some o:=by rw [Array.getElem?_toList]; exact ho
  have hnl:¬ Lst listed j:=fun g=>by
   unfold Lst at g
   simp [hjl] at h0 g
   rw [h0] at g
   cases g
  have hcl:=Y4 hia.closed ho' fun e he hb=>hall e (Array.mem_toList_iff.1 he) hb
  have hcn:WX (listed.setIfInBounds j true).toList≤fuel:=by
   have:=PE hlf
   rw [Array.toList_setIfInBounds]
   omega
  have hD':=LY hjl (l:=listed)
  have hpu':∀ k o,ops.toList[k]? = some o→¬ Lst (listed.setIfInBounds j true) k→k=p∨KG P o.op = .pure:=fun k o hk hn=>hpu k o hk fun g=>hn ((hD' k).2 (.inl g))
  have hwt:=Vt (r:=r) (l:=(vs.take j).reverse) (e0:=e0) (co:=J5 ops j) (a:=a) (ops:=ops) (o:=o) fun t ht v' hv'=>hia.cx hp he0 ho' hnl hcl (List.mem_append_right _ ht) hv'
  have hcx:=hia.cxs hp he0 ho' hnl hcl
  unfold wpOp
  rw [ho]
  simp only
  by_cases hjp:j=p
  ·subst hjp
   rw [hop] at ho'
   cases ho'
   have hw:wanted (vs.take j).reverse e0 (guardOf (J5 ops j) ops op) = .yes:=by unfold guardOf; rw [hgd]; rfl
   rw [hwt.1 hw,if_pos rfl]
   refine .inl ?_
   rcases hex with ⟨_,hx⟩ | ⟨g,_⟩
   ·have hr:=Rt hcall hrun
    refine hr.ok hx.rel hcx _ _ fun q u w' hx' hvr => ?_
    exact ih _ q _ w' (by simpa using hsz) hcn (hia.put hp he0 hop hdi1 hnl hcl hD' hx'.le hv1 hvr) hpu' (.inr ⟨(hD' j).2 (.inr rfl),(hx.trans hx').forget hs3 hn3⟩)
   ·exact absurd g hnl
  ·have hk:=(hpu j o ho' hnl).resolve_left hjp
   obtain ⟨v,hv,hdi,_,_,hst⟩:=hp.step j o ho'
   have hex':(¬ Lst (listed.setIfInBounds j true) p∧Ext r0 (st 0) w0 r s2 w)∨(Lst (listed.setIfInBounds j true) p∧Ext r0 (st 0) w0 r (st ops.toList.length) w):=by
    rcases hex with ⟨g1,g2⟩ | ⟨g1,g2⟩
    ·exact .inl ⟨fun g=>((hD' p).1 g).elim g1 fun e=>hjp e.symm,g2⟩
    ·exact .inr ⟨(hD' p).2 (.inl g1),g2⟩
   rcases hst with ⟨hw,hrun'⟩ | ⟨hw,rfl,_⟩
   ·rw [hwt.1 hw,if_pos rfl]
    refine .inl ?_
    have hr:=Rt hcall hrun'
    rw [hk] at hr
    obtain ⟨u,h1,h2⟩:=hr.2 r w a hcx
    unfold Oper.wp
    rw [h1]
    exact ih _ r _ w (by simpa using hsz) hcn (hia.put hp he0 ho' hdi hnl hcl hD' r.le_refl hv h2) hpu' hex'
   ·rw [hwt.2 hw]
    simp only [Bool.false_eq_true,if_false]
    exact ih _ r _ w (by simpa using hsz) hcn (hia.put hp he0 ho' hdi hnl hcl hD' r.le_refl hv (.tuple .nil)) hpu' hex'
theorem QM.still (hp:QM X P call K ops e0 vs st) (hcall:ZZ P call) {p:Nat}:∀ (d:Nat),p+d≤ops.toList.length→(∀ i o,p≤i→i<p+d→ops.toList[i]? = some o→KG P o.op = .pure)→st (p+d)=st p
 | 0,_,_=>rfl
 | d+1,hl,hk=>by
  have h1:=QM.still hp hcall d (by omega) fun i o h1 h2=>hk i o h1 (by omega)
  have ho:ops.toList[p+d]? = some ops.toList[p+d]:=List.getElem?_eq_getElem (by omega)
  have hkd:=hk _ _ (Nat.le_add_right p d) (by omega) ho
  rcases hp.LX hcall (j:=p+d) (by omega) (fun ⟨o,g1,g2⟩=>by rw [ho] at g1; cases g1; rw [hkd] at g2; cases g2) with ⟨⟨o,g1,g2,_⟩,_⟩ | ⟨_,h2⟩
  ·rw [ho] at g1; cases g1; rw [hkd] at g2; cases g2
  ·rw [show p+(d+1)=p+d+1 by omega,h2,h1]
theorem Zfu (hm:P.follows .mixedOrders=true) {n p:Nat} (hp:QM (fun i j=>i=p∧j=n) P call K ops e0 vs st) (ht:Zer P ops e0 vs p n) (hcall:ZZ P call) (hr0:Rel r0 (st 0) w0) (he0:Qk K r0 e0 a0) {Q:Exit→Act→World→Prop}
  (hQ:∀ q a' w',Ext r0 (st 0) w0 q (st ops.toList.length) w'→Qk K q (Q8 K ops.toList vs e0) a'→Q .normal a' w') :
  ∀ (fuel:Nat) (listed:Array Bool) (m j:Nat) (r:Rho) (a:Act) (w:World),listed.size=ops.size→WX (listed.setIfInBounds j true).toList≤fuel→Iv P call K ops e0 vs st r0 w0 a0 (Lst listed) m r a w→(m=p∧j=n) →
   (m=ops.toList.length∨QW P ops m)→¬ Lst listed j→(∀ i,Xp (Zx ops.toList []) j i→Lst listed i)→wpOp P ops Q j (fun a w=>wpAny P .any ops Q fuel (listed.setIfInBounds j true) a w) a w:=by
 rintro fuel listed m j r a w hsz hcn hiv ⟨hmp,hjn⟩ hme hnl hcl
 have hmp':=hmp
 subst hmp
 subst hjn
 obtain ⟨o1,t1,a1,x1,ho1,hop1,hg1⟩:=ht.st1
 obtain ⟨o2,t2,a2,x2,ho2,hop2,hg2⟩:=ht.st2
 have hlt:=ht.lt
 have hlen:=ht.len
 have hk1:KG P o1.op = .eff:=by rw [hop1]; rfl
 have hk2:KG P o2.op = .eff:=by rw [hop2]; rfl
 have he1:QW P ops m:=⟨o1,ho1,by rw [hk1]; rfl⟩
 have hnp:¬ Lst listed m:=fun g=>absurd ((hiv.WW m he1).1 g) (by omega)
 have nomade:∀ k,m≤k→¬ Made P ops e0 vs k:=fun k hk ⟨o,g1,g2,_⟩=>by
  have hkl:=(List.getElem?_eq_some_iff.1 g1).1
  rcases Nat.lt_or_ge k j with hlt | hge
  ·rcases ht.pure k o hlt g1 with g | g | ⟨g,_⟩
   ·subst g; rw [ho1] at g1; cases g1; rw [hk1] at g2; cases g2
   ·rw [g] at g2; cases g2
   ·have:k=m:=by omega
    subst this; rw [ho1] at g1; cases g1; rw [hk1] at g2; cases g2
  ·have:k=j:=by omega
   subst this; rw [ho2] at g1; cases g1; rw [hk2] at g2; cases g2
 have htill:r.Qt (st m).next=r:=Rho.LW fun i x hx=>by
  rcases hiv.known i x hx with g | ⟨k,g1,_,g3,_⟩
  ·exact g
  ·exact absurd g3 (nomade k g1)
 have hext:=hiv.ext
 rw [htill] at hext
 obtain ⟨v1,hv1,hdi1,_,_,hs1⟩:=hp.step m o1 ho1
 obtain ⟨v2,hv2,hdi2,_,_,hs2⟩:=hp.step j o2 ho2
 have w1:wanted (vs.take m).reverse e0 (guardOf (J5 ops m) ops o1) = .yes:=by unfold guardOf; rw [hg1]; rfl
 have w2:wanted (vs.take j).reverse e0 (guardOf (J5 ops j) ops o2) = .yes:=by unfold guardOf; rw [hg2]; rfl
 have r1:(comp (J5 ops m) P call o1.op).run (vs.take m).reverse e0 (st m) = .ok v1 (st (m+1)):=by
  rcases hs1 with ⟨_,g⟩ | ⟨g,_⟩
  ·exact g
  ·rw [w1] at g; cases g
 have r2:(comp (J5 ops j) P call o2.op).run (vs.take j).reverse e0 (st j) = .ok v2 (st (j+1)):=by
  rcases hs2 with ⟨_,g⟩ | ⟨g,_⟩
  ·exact g
  ·rw [w2] at g; cases g
 have hst:st j=st (m+1):=by
  have:=hp.still hcall (p:=m+1) (j-(m+1)) (by omega) fun i o h1 h2 ho=>by
   rcases ht.pure i o (by omega) ho with g | g | ⟨g,_⟩
   ·omega
   ·exact g
   ·omega
  rw [show m+1+(j-(m+1))=j by omega] at this
  exact this
 rw [hop1] at r1
 rw [hop2] at r2
 obtain ⟨id1,b1,hid1,hv1',hb1,hall1⟩:=Nf (p:=Jr P t1) r1
 obtain ⟨id2,b2,hid2,hv2',hb2,hall2⟩:=Nf (p:=Jr P t2) r2
 have hne:id1≠id2:=by
  obtain ⟨i,k,g1,g2,g3⟩:=ht.apart
  have e1:MF ops e0 vs m=idV (Zn (vs.take m).reverse e0 (J5 ops m a1)):=by
   unfold MF
   rw [show (ops.toList[m]?).bind XK=some a1 by rw [ho1]; show XK o1=some a1; unfold XK; rw [hop1,hg1]]
  have e2:MF ops e0 vs j=idV (Zn (vs.take j).reverse e0 (J5 ops j a2)):=by
   unfold MF
   rw [show (ops.toList[j]?).bind XK=some a2 by rw [ho2]; show XK o2=some a2; unfold XK; rw [hop2,hg2]]
  rw [e1,hid1] at g1
  rw [e2,hid2] at g2
  cases g1
  cases g2
  exact g3
 rw [hst,hb1] at hb2 hall2
 have r2':=hall2 (st m) (by rw [St.QK,if_neg hne])
 have r1':=hall1 ((st m).put id2 b2) (by rw [St.QK,if_neg (Ne.symm hne)])
 have hia:=hiv.ia
 have hcx:=hia.cxs hp he0 ho2 hnl hcl
 have hjl:j<listed.size:=by
  rw [hsz]
  have:=(List.getElem?_eq_some_iff.1 ho2).1
  simpa using this
 have hD':=LY hjl (l:=listed)
 have hwt:=Vt (r:=r) (l:=(vs.take j).reverse) (e0:=e0) (co:=J5 ops j) (a:=a) (ops:=ops) (o:=o2) fun t ht v' hv'=>hia.cx hp he0 ho2 hnl hcl (List.mem_append_right _ ht) hv'
 unfold wpOp
 rw [show ops[j]? = some o2 by rw [← Array.getElem?_toList]; exact ho2]
 simp only
 rw [hwt.1 w2,if_pos rfl]
 refine .inl ?_
 have hr2:(comp (J5 ops j) P call o2.op).run (vs.take j).reverse e0 (st m) = .ok v2 ((st m).put id2 b2):=by rw [hop2]; exact r2'
 have hr1:(comp (J5 ops m) P call o1.op).run (vs.take m).reverse e0 ((st m).put id2 b2) = .ok v1 (((st m).put id2 b2).put id1 b1):=by rw [hop1]; exact r1'
 refine (Rt hcall hr2).ok hext.rel hcx _ _ fun q u w' hx hvr => ?_
 have hN:st ops.toList.length=((st m).put id1 b1).put id2 b2:=by rw [hlen,hb2]
 refine Zc9 hp hcall he0 ho1 hQ hv1 hr1 hg1 hk1 (fun i b hb => ?_) (by rw [hN]; rfl) hdi1 fuel _ q _ w' (by simpa using hsz) hcn (hia.put hp he0 ho2 hdi2 hnl hcl hD' hx.le hv2 hvr) (fun k o hk hn => ?_) (.inl ⟨fun g => ?_,hext.trans hx⟩)
 ·rw [hN,St.QK,St.QK] at hb
  rw [St.QK,St.QK]
  by_cases h1:id1=i
  ·rw [if_pos h1]
   by_cases h2:id2=i
   ·exact absurd (h1.trans h2.symm) hne
   ·rw [if_neg h2,if_pos h1] at hb; exact hb
  ·rw [if_neg h1]
   rw [if_neg h1] at hb
   exact hb
 ·have hkl:=(List.getElem?_eq_some_iff.1 hk).1
  rcases Nat.lt_or_ge k j with g | g
  ·rcases ht.pure k o g hk with g | g | ⟨_,g⟩
   ·exact .inl g
   ·exact .inr g
   ·exact absurd ((hD' k).2 (.inl (hcl k g))) hn
  ·exact absurd ((hD' k).2 (.inr (by omega))) hn
 ·rcases (hD' m).1 g with g | g
  ·exact hnp g
  ·omega
end
theorem LZ (hm:P.follows .mixedOrders=true) {call:Zu} {K:ZF} (hcall:ZZ P call):Po P call K:=by
 intro id ops
 cases hg:GI P ops (QH P ops ops.toList (Zx ops.toList [])) with
 | true =>
  have:Uh P call K ops (QH P ops ops.toList (Zx ops.toList []))=⟨Sj (Qi P call K ops (QH P ops ops.toList (Zx ops.toList [])) ops.toList (QH P ops ops.toList (Zx ops.toList [])) 0 .nil)⟩:=by
   unfold Uh; rw [hg]; rfl
  rw [this]
  exact ZaJ hm hcall hg
 | false =>
  have:Uh P call K ops (QH P ops ops.toList (Zx ops.toList []))=Zhe P call K ops (QH P ops ops.toList (Zx ops.toList [])) (GJ P ops (QH P ops ops.toList (Zx ops.toList []))):=by
   unfold Uh; rw [hg]; rfl
  rw [this]
  cases ht:GJ P ops (QH P ops ops.toList (Zx ops.toList [])) with
  | none=>intro e s x e' s' h; cases h
  | some p =>
   intro e s x e' s' h r w a Q hr he hQ
   obtain ⟨rfl,vs,st,n,hp,rfl,rfl,rfl,htw⟩:=ZaK ht h
   refine wp_region_any hm ?_
   have hr':Rel r (st 0) { w with drawn:=w.drawn+1 }:=hr.drawn _
   have hst:=Iv.start (r0:=r) (w0:={ w with drawn:=w.drawn+1 }) (a0:=a) hp hr' he.defers
   have hQ':∀ q a' w',Ext r (st 0) { w with drawn:=w.drawn+1 } q (st ops.toList.length) w'→Qk K q (Q8 K ops.toList vs e) a'→Q .normal a' w':=fun q a' w' hx he'=>hQ q a' w' ((Ext.drawn hr _).trans hx) he'
   refine ZaI hp hcall hr' he hQ' (Zfu hm hp htw hcall hr' he hQ') ops.size _ 0 r a _ (by simp) (by rw [Array.toList_replicate,PF]; exact Nat.le_refl _) ?_
   have:Lst (Array.replicate ops.size false)=fun _=>False:=by
    funext j
    unfold Lst
    simp [Array.getElem?_replicate]
    split <;> simp
   rw [this]
   exact hst
end Go.Proofs.YtheflbaejhlboaaGreatDoor.Ev
namespace Go.Proofs.YtheflbaejhlboaaGreatDoor.Ev
open Go
noncomputable section
def Z0 {α : Type} (l:List (Nat × α)):Tr α → Tr α :=
 @List.rec (Nat × α) (fun _=>Tr α → Tr α) (fun t=>t) (fun x _ ih t=>ih (t.set x.1 (some x.2))) l
def Zfv {α : Type} (l:List (Nat × α)):Tr α → Tr α :=
 @List.rec (Nat × α) (fun _=>Tr α → Tr α) (fun t=>t) (fun x _ ih t=>ih (t.set x.1 none)) l
def L3:List Entry→List Entry→Bool
 | [],[]=>true
 | (a,b,n)::l,(c,d,m)::k=>sel (Jz a c) (sel (Jz b d) (sel (Nat.beq n m) (L3 l k) false) false) false
 | _,_=>false
def L4:List Nat→List Nat→Bool
 | [],[]=>true
 | a::l,b::k=>sel (Nat.beq a b) (L4 l k) false
 | _,_=>false
def DP:Option Nat→Option Nat→Bool
 | none,none=>true
 | some a,some b=>Nat.beq a b
 | _,_=>false
def GY:Zd→Zd→Bool
 | .cells cs e o,.cells ds f p=>sel (Nat.beq e f) (sel (S9 o p) (Jt cs ds) false) false
 | .map es c,.map fs d=>sel (Nat.beq c d) (L3 es fs) false
 | .mapIter m a l b,.mapIter n c k d=>sel (DP m n) (sel (Nat.beq a c) (sel (L4 l k) (Nat.beq b d) false) false) false
 | _,_=>false
def XP (b:Zd) (o:Option Zd):Bool:=match o with
 | some c=>GY b c
 | none=>false
def Us (s:St) (l:List (Nat×Zd)):Bool :=
 @List.rec (Nat×Zd) (fun _=>Bool) true (fun x _ ih=>sel (XP x.2 (s.get x.1)) ih false) l
structure Ent where
 f:FuncId
 args:List Zc
 pre:List (Nat×Zd)
 n:Nat
 v:Zc
 post:List (Nat×Zd)
 m:Nat
def Ent.S (e:Ent):St:=⟨Z0 e.pre .lf,e.n⟩
def Ent.S' (e:Ent):St:=⟨Z0 e.post .lf,e.m⟩
def Ent.L5 (e:Ent) (s:St):St:=⟨Z0 e.post (Zfv e.pre s.heap),e.m⟩
def Zfw (e:Ent) (args:List Zc) (s:St) (r:R):R :=
 sel (Nat.beq e.n s.next) (sel (Jt e.args args) (sel (Us s e.pre) (.ok e.v (e.L5 s)) r) r) r
def Zda (args:List Zc) (s:St):List Ent→R
 | [] => .bad
 | e::l=>Zfw e args s (Zda args s l)
def ZaL (T:List Ent):Orc:=⟨fun args s=>Zda args s T⟩
def Zhh (e:Ent) (r:R):Bool:=match r with
 | .ok v s1=>sel (Jz v e.v) (sel (Nat.beq s1.next e.m) (Us s1 e.post) false) false
 | .bad=>false
end
variable [Sig]
theorem PH {α : Type}:∀ (l:List (Nat × α)) (t:Tr α) (i:Nat) (b : α),(Z0 l t).get i=some b→(i,b)∈l∨t.get i=some b
 | [],_,_,_,h => .inr h
 | (j,c)::l,t,i,b,h=>by
  rcases PH l _ i b h with h1 | h1
  ·exact .inl (List.mem_cons_of_mem _ h1)
  ·rw [Jo] at h1
   by_cases hj:j=i
   ·subst hj; rw [if_pos rfl] at h1; cases h1; exact .inl List.mem_cons_self
   ·rw [if_neg hj] at h1; exact .inr h1
theorem Q9 {α : Type} {l:List (Nat × α)} {i:Nat} {b : α} (h:(Z0 l .lf).get i=some b):(i,b)∈l:=by
 rcases PH l _ i b h with h1 | h1
 ·exact h1
 ·rw [Ye] at h1; cases h1
theorem PJ {α : Type} (i:Nat):∀ (l:List (Nat × α)) (t:Tr α),(Z0 l t).get i=((Z0 l .lf).get i).or (t.get i)
 | [],t=>by show t.get i=((Tr.lf:Tr α).get i).or (t.get i); rw [Ye]; rfl
 | (j,c)::l,t=>by
  show (Z0 l (t.set j (some c))).get i=((Z0 l (Tr.lf.set j (some c))).get i).or (t.get i)
  rw [PJ i l,PJ i l (Tr.lf.set j (some c)),Jo,Jo]
  by_cases hj:j=i
  ·rw [if_pos hj,if_pos hj]; cases (Z0 l .lf).get i <;> rfl
  ·rw [if_neg hj,if_neg hj,Ye]; cases (Z0 l .lf).get i <;> rfl
theorem GZ {α : Type} (i:Nat):∀ (l:List (Nat × α)) (t:Tr α) (b : α),(Zfv l t).get i=some b→t.get i=some b∧∀ c,(i,c)∉l
 | [],t,b,h=>⟨h,fun _ h=>by cases h⟩
 | (j,c)::l,t,b,h=>by
  obtain ⟨h1,h2⟩:=GZ i l _ b h
  rw [Jo] at h1
  by_cases hj:j=i
  ·rw [if_pos hj] at h1; cases h1
  ·rw [if_neg hj] at h1
   refine ⟨h1,fun d hd => ?_⟩
   rcases List.mem_cons.1 hd with h3 | h3
   ·exact hj (congrArg Prod.fst h3).symm
   ·exact h2 d h3
theorem ZE {a b:Bool} (h:sel a b false=true):a=true∧b=true:=by
 cases a
 ·cases h
 ·exact ⟨rfl,h⟩
theorem Ni:∀ (l k:List Entry),L3 l k=true→l=k
 | [],[],_=>rfl
 | [],_::_,h=>by cases h
 | (a,b,n)::l,[],h=>by cases h
 | (a,b,n)::l,(c,d,m)::k,h=>by
  obtain ⟨h1,h⟩:=ZE h
  obtain ⟨h2,h⟩:=ZE h
  obtain ⟨h3,h⟩:=ZE h
  rw [Qj a c h1,Qj b d h2,Nat.eq_of_beq_eq_true h3,Ni l k h]
theorem Nj:∀ (l k:List Nat),L4 l k=true→l=k
 | [],[],_=>rfl
 | [],_::_,h=>by cases h
 | a::l,[],h=>by cases h
 | a::l,b::k,h=>by
  obtain ⟨h1,h⟩:=ZE h
  rw [Nat.eq_of_beq_eq_true h1,Nj l k h]
theorem Ut:∀ (a b:Option Nat),DP a b=true→a=b
 | none,none,_=>rfl
 | none,some _,h=>by cases h
 | some _,none,h=>by cases h
 | some a,some b,h=>by rw [Nat.eq_of_beq_eq_true h]
theorem Y7:∀ (b c:Zd),GY b c=true→b=c
 | .cells cs e o,.cells ds f p,h=>by
  obtain ⟨h1,h⟩:=ZE h
  obtain ⟨h2,h⟩:=ZE h
  have ho:o=p:=by cases o <;> cases p <;> first | rfl | cases h2
  rw [Nat.eq_of_beq_eq_true h1,ho,JA cs ds h]
 | .map es c,.map fs d,h=>by
  obtain ⟨h1,h⟩:=ZE h
  rw [Nat.eq_of_beq_eq_true h1,Ni es fs h]
 | .mapIter m a l b,.mapIter n c k d,h=>by
  obtain ⟨h1,h⟩:=ZE h
  obtain ⟨h2,h⟩:=ZE h
  obtain ⟨h3,h⟩:=ZE h
  rw [Ut m n h1,Nat.eq_of_beq_eq_true h2,Nj l k h3,Nat.eq_of_beq_eq_true h]
 | .cells _ _ _,.map _ _,h=>by cases h
 | .cells _ _ _,.mapIter _ _ _ _,h=>by cases h
 | .map _ _,.cells _ _ _,h=>by cases h
 | .map _ _,.mapIter _ _ _ _,h=>by cases h
 | .mapIter _ _ _ _,.cells _ _ _,h=>by cases h
 | .mapIter _ _ _ _,.map _ _,h=>by cases h
theorem Y8 {s:St}:∀ {l:List (Nat×Zd)},Us s l=true→∀ i b,(i,b)∈l→s.get i=some b
 | [],_,_,_,h=>by cases h
 | (j,c)::l,h,i,b,hm=>by
  have h:sel (XP c (s.get j)) (Us s l) false=true:=h
  obtain ⟨h1,h2⟩:=ZE h
  rcases List.mem_cons.1 hm with h3 | h3
  ·cases h3
   unfold XP at h1
   split at h1
   ·rename_i d hd
    rw [hd,Y7 _ _ h1]
   ·cases h1
  ·exact Y8 h2 i b h3
variable {P:Program}
def G0 (P:Program) (e:Ent):Prop:=∀ (r:Rho) (w:World) (us:List Value),Rel r e.S w→VRs r e.args us →
 Xt P e.f ⟨us⟩ w fun u w'=>∃ q,Ext r e.S w q e.S' w'∧VR q e.v u
theorem Xt.mono {f:FuncId} {us:Array Value} {w:World} {R R':Value→World→Prop} (h:Xt P f us w R) (k:∀ u w',R u w'→R' u w'):Xt P f us w R':=by
 rcases h with ⟨u,w',h1,h2⟩ | ⟨h1,h2⟩
 ·exact .inl ⟨u,w',h1,k u w' h2⟩
 ·refine .inr ⟨h1,h2.mono ?_⟩
  rintro e w' ⟨u,rfl,h3⟩
  exact ⟨u,rfl,k u w' h3⟩
theorem Rel.some {r:Rho} {s s':St} {w:World} (h:Rel r s w) (hs:∀ i b,s'.get i=some b→s.get i=some b) (hn:s'.next=s.next):Rel r s' w :=
 ⟨⟨fun i b x hb hx=>h.block i b x (hs i b hb) hx,fun i hi=>by
   cases e:s'.get i with
   | none=>rfl
   | some b=>have:=hs i b e; rw [h.far i (hn▸hi)] at this; cases this⟩,
  fun i j b c x y hb hc=>h.apart i j b c x y (hs i b hb) (hs j c hc),fun i x hx=>hn▸h.known i x hx,
  fun i x g hx hg=>(h.safe i x g hx hg).step (Nat.le_refl _) (fun _ _ _=>rfl) fun k ⟨i,b,x,hb,hx,hk⟩ => .inl ⟨i,b,x,hs i b hb,hx,hk⟩⟩
theorem Ext.beside {r q:Rho} {s:St} {e:Ent} {w u:World} (hr:Rel r s w) (hs:∀ i b,e.S.get i=some b→s.get i=some b) (hn:e.n=s.next) (h:Ext r e.S w q e.S' u):Ext r s w q (e.L5 s) u:=by
 have back:∀ i b,(e.L5 s).get i=some b→e.S'.get i=some b∨(s.get i=some b∧e.S.get i=none):=fun i b hb=>by
  have hb:(Z0 e.post (Zfv e.pre s.heap)).get i=some b:=hb
  rw [PJ] at hb
  cases hp:(Z0 e.post .lf).get i with
  | some c=>rw [hp] at hb; cases hb; exact .inl hp
  | none =>
   rw [hp] at hb
   obtain ⟨h1,h2⟩:=GZ i _ _ b hb
   refine .inr ⟨h1,?_⟩
   cases hq:e.S.get i with
   | none=>rfl
   | some c=>exact absurd (Q9 hq) (h2 c)
 have old:∀ i b x,s.get i=some b→q i=some x→r i=some x:=fun i b x hb hx=>by
  have hi:=hr.below hb
  cases hri:r i with
  | none=>have:=h.fresh i hri (by rw [hx]; exact fun h=>by cases h); have h2:e.S.next=e.n:=rfl; omega
  | some y=>rw [h.le i y hri] at hx; exact hx
 have nohit:∀ i b x,s.get i=some b→e.S.get i=none→r i=some x→¬ Hit r e.S x.blk:=fun i b x hb he hx ⟨j,c,y,hc,hy,hk⟩=>by
  have:=hr.apart j i c b y x (hs j c hc) hb hy hx hk
  subst this
  rw [hc] at he; cases he
 have lt:∀ i b x,s.get i=some b→r i=some x→x.blk<w.heap.size:=fun i b x hb hx=>hr.lt ⟨i,b,x,hb,hx,rfl⟩
 have Ba:∀ i j b c x y,e.S'.get i=some b→s.get j=some c→e.S.get j=none→q i=some x→q j=some y→x.blk=y.blk→False:=fun i j b c x y hb hc hj hx hy hxy=>by
  have hy':=old j c y hc hy
  rcases h.Xs x.blk ⟨i,b,x,hb,hx,rfl⟩ with h1 | h1
  ·exact nohit j c y hc hj hy' (hxy▸h1)
  ·have:=lt j c y hc hy'; omega
 have hns:s.next≤e.m:=hn▸h.next
 refine ⟨⟨⟨fun i b x hb hx => ?_,fun i hi => ?_⟩,fun i j b c x y hb hc hx hy hxy => ?_,fun i x hx=>h.rel.known i x hx,fun i x g hx hg => ?_⟩,h.le,hns,h.os,h.tape,h.output,h.size,fun k hk hh=>h.frame k hk fun ⟨i,b,x,hb,hx,hk⟩=>hh ⟨i,b,x,hs i b hb,hx,hk⟩,
  fun i hi hri b hb => ?_,fun i hi hg => ?_,fun k ⟨i,b,x,hb,hx,hk⟩ => ?_,fun i hri hq=>hn▸h.fresh i hri hq,h.Kz⟩
 ·rcases back i b hb with h1 | ⟨h1,h2⟩
  ·exact h.rel.block i b x h1 hx
  ·have hx':=old i b x h1 hx
   obtain ⟨o,h3,h4⟩:=hr.block i b x h1 hx'
   exact ⟨o,by rw [h.frame x.blk (lt i b x h1 hx') (nohit i b x h1 h2 hx')]; exact h3,h4.mono h.le⟩
 ·cases hb:(e.L5 s).get i with
  | none=>rfl
  | some b =>
   have hi:e.m≤i:=hi
   rcases back i b hb with h1 | ⟨h1,h2⟩
   ·rw [h.rel.far i hi] at h1; cases h1
   ·rw [hr.far i (by omega)] at h1; cases h1
 ·rcases back i b hb with h1 | ⟨h1,h2⟩ <;> rcases back j c hc with h3 | ⟨h3,h4⟩
  ·exact h.rel.apart i j b c x y h1 h3 hx hy hxy
  ·exact (Ba i j b c x y h1 h3 h4 hx hy hxy).elim
  ·exact (Ba j i c b y x h3 h1 h2 hy hx hxy.symm).elim
  ·exact hr.apart i j b c x y h1 h3 (old i b x h1 hx) (old j c y h3 hy) hxy
 ·obtain ⟨g1,g2⟩:=h.rel.safe i x g hx hg
  refine ⟨g1,fun k hk hl=>⟨(g2 k hk hl).1,fun ⟨j,b,y,hb,hy,hjk⟩ => ?_⟩⟩
  rcases back j b hb with h1 | ⟨h1,h2⟩
  ·exact (g2 k hk hl).2 ⟨j,b,y,h1,hy,hjk⟩
  ·have hy':=old j b y h1 hy
   rcases h.Kz k ⟨i,x,g,hx,hg,hk,hl⟩ with ⟨i',x',g',e1,e2,e3,e4⟩ | h3
   ·exact ((hr.safe i' x' g' e1 e2).2 k e3 e4).2 ⟨j,b,y,h1,hy',hjk⟩
   ·have:=lt j b y h1 hy'
    omega
 ·rcases back i b hb with h1 | ⟨h1,h2⟩
  ·exact hs i b (h.still i (by have h2:e.S.next=e.n:=rfl; omega) hri b h1)
  ·exact h1
 ·cases hb:(e.L5 s).get i with
  | none=>rfl
  | some b =>
   rcases back i b hb with h1 | ⟨h1,h2⟩
   ·have hd:=h.dead i (by have h2:e.S.next=e.n:=rfl; omega) (by
     cases hc:e.S.get i with
     | none=>rfl
     | some c=>rw [hs i c hc] at hg; cases hg)
    rw [hd] at h1; cases h1
   ·rw [hg] at h1; cases h1
 ·rcases back i b hb with h1 | ⟨h1,h2⟩
  ·rcases h.Xs k ⟨i,b,x,h1,hx,hk⟩ with ⟨j,c,y,hc,hy,hk⟩ | h3
   ·exact .inl ⟨j,c,y,hs j c hc,hy,hk⟩
   ·exact .inr h3
  ·exact .inl ⟨i,b,x,h1,old i b x h1 hx,hk⟩
def Z4 (P:Program) (f:FuncId) (g:Orc):Prop:=∀ (args:List Zc) (s:St) (v:Zc) (s':St),g.run args s = .ok v s'→∀ (r:Rho) (w:World) (us:List Value),Rel r s w→VRs r args us →
  Xt P f ⟨us⟩ w fun u w'=>∃ q,Ext r s w q s' w'∧VR q v u
theorem PK {f:FuncId}:∀ {T:List Ent},(∀ e∈T,e.f=f∧G0 P e)→Z4 P f (ZaL T)
 | [],_=>fun args s v s' h=>by cases h
 | e::T,hT=>fun args s v s' h r w us hr hv=>by
  have h:Zfw e args s (Zda args s T) = .ok v s':=h
  have rest:Zda args s T = .ok v s'→Xt P f ⟨us⟩ w fun u w'=>∃ q,Ext r s w q s' w'∧VR q v u:=fun h =>
   PK (T:=T) (fun e he=>hT e (List.mem_cons_of_mem _ he)) args s v s' h r w us hr hv
  unfold Zfw at h
  rcases Ze h with ⟨h1,h⟩ | ⟨_,h⟩
  ·rcases Ze h with ⟨h2,h⟩ | ⟨_,h⟩
   ·rcases Ze h with ⟨h3,h⟩ | ⟨_,h⟩
    ·cases h
     obtain ⟨rfl,he⟩:=hT e List.mem_cons_self
     have hn:e.n=s.next:=Nat.eq_of_beq_eq_true h1
     have hs:∀ i b,e.S.get i=some b→s.get i=some b:=fun i b hb=>Y8 h3 i b (Q9 hb)
     have ha:=JA _ _ h2
     subst ha
     refine (he r w us (hr.some hs hn) hv).mono fun u w' ⟨q,h4,h5⟩=>⟨q,h4.beside hr hs hn,h5⟩
    ·exact rest h
   ·exact rest h
  ·exact rest h
end Go.Proofs.YtheflbaejhlboaaGreatDoor.Ev
