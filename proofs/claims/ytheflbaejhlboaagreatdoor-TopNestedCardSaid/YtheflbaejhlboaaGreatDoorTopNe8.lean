/- Lemmas for a law of confluencetop. -/
import Derived.Test.YtheflbaejhlboaaGreatDoorTopNe7
import Derived.Test.YtheflbaejhlboaaGreatDoorProg
set_option linter.all false
namespace Go.Proofs.YtheflbaejhlboaaGreatDoor
namespace Ev
open Go
variable [Sig] {P:Program} {X:Nat->Nat->Prop}
def Yh:List Bool->Nat
 | []=>0
 | b::l=>(if b=false then 1 else 0)+Yh l
theorem LD:∀ {l:List Bool} {i:Nat},l[i]? = some false->Yh (l.set i true)+1=Yh l
 | [],i,h=>by simp at h
 | b::l,0,h=>by
  cases h;simp [Yh];omega
 | b::l,i+1,h=>by
  have:=LD (l:=l) (i:=i) (by simpa using h);simp only [List.set_cons_succ,Yh];omega
theorem S9:∀ {l:List Bool} {i:Nat},Yh l=0->l[i]? ≠ some false
 | [],i,_=>by simp
 | b::l,0,h=>by
  cases b
  ·simp [Yh] at h
  ·simp
 | b::l,i+1,h=>by
  have:Yh l=0:=by simp only [Yh] at h; omega
  simpa using S9 (i:=i) this
theorem LF:∀ n,Yh (List.replicate n false)=n
 | 0=>rfl
 | n+1=>by
  rw [List.replicate_succ];simp only [Yh,LF n];simp;omega
section
variable {call:Zz} {K:ZK} {ops:Array Oper} {e0:Env} {vs:List Zb} {st:Nat->St}
variable {r0:Rho} {w0:World} {a0:Act} {m:Nat} {r:Rho} {a:Act} {w:World}
def Lst (l:Array Bool) (j:Nat):Prop:=l.getD j false=true
theorem Du {l:Array Bool} {i:Nat} (hi:i<l.size) (k:Nat):Lst (l.setIfInBounds i true) k↔Lst l k\/k=i:=by
 unfold Lst;by_cases h:i=k
 ·subst h; simp [hi]
 ·rw [getD_set_ne false h];exact ⟨.inl,fun g=>g.resolve_right fun e=>h e.symm⟩
theorem Iv.next (hp:Jc X P call K ops e0 vs st) (hcall:Z7 P call) (hr0:Rel r0 (st 0) w0) (he0:Qr K r0 e0 a0) {D D':Nat->Prop} (h:Iv P call K ops e0 vs st r0 w0 a0 D m r a w)
  (hm:m=ops.toList.length\/Jv P ops m) {j:Nat} (hX:¬ X m j) {o:Oper} (ho:ops.toList[j]? = some o) (hD:¬ D j) (hr:∀ i,XU (Zw ops.toList []) j i->D i) (hD':∀ k,D' k↔D k\/k=j)
  {Kn:Act->World->Prop} {Q:Exit->Act->World->Prop} (hK:∀ r' a' w' p,Iv P call K ops e0 vs st r0 w0 a0 D' p r' a' w'->Kn a' w'):wpOp P ops Q j Kn a w:=by
 have hjl:=(List.getElem?_eq_some_iff.1 ho).1;have ho':ops[j]? = some o:=by rw [<- Array.getElem?_toList]; exact ho
 obtain ⟨v,hv,hdi,hnx,hlow,hst⟩:=hp.step j o ho;have hcx:=h.cx hp hr0 he0 ho hD hr;have hwt:=YM (r:=r.QC (st j).next) (l:=(vs.take j).reverse) (e0:=e0) (co:=Xy ops j) (a:=a) (ops:=ops) (o:=o) fun t ht v' hv'=>h.read hp hr0 he0 ho hD hr (List.mem_append_right _ ht) hv';have tl:∀ {n},(r.QC n).le r:=fun {n} i x hx=>(Rho.Ko hx).2
 have qi:Jv P ops j->j=m:=fun he=>by
  rcases hm with rfl | hm
  ·exact absurd ((h.Yg j he).2 hjl) hD
  ·have h1:¬ j<m:=fun g=>hD ((h.Yg j he).2 g);rcases Nat.lt_trichotomy j m with g | g | g
   ·exact absurd g h1
   ·exact g
   ·exact absurd ((h.Yg m hm).1 (hr m (hp.Yg m j g hX hm he))) (by omega)
 unfold wpOp;rw [ho'];simp only;rcases hst with ⟨hw,hrun⟩ | ⟨hw,rfl,hs⟩
 ·rw [hwt.1 hw,if_pos rfl];refine .inl ?_;have hop:=PR hcall hrun;cases hk:WL P o.op with
  | pure =>
   rw [hk] at hop;obtain ⟨u,h1,h2⟩:=hop.2 _ w a hcx;unfold Oper.wp;rw [h1];refine hK r _ w m (h.quiet hp he0 ho hD hr hD' (fun ⟨o',g1,g2⟩ => ?_) (fun ⟨o',g1,g2,_⟩ => ?_) hdi hv (h2.mono tl))
   ·rw [ho] at g1; cases g1; rw [hk] at g2; cases g2
   ·rw [ho] at g1; cases g1; rw [hk] at g2; cases g2
  | look =>
   obtain ⟨s',hrun'⟩:=hp.look j o v ho hk hv hw m hm (fun i hi hb=>(h.Yg i hi).1 (hr i hb)) (fun i hi him hb=>hD (h.closed i ((h.Yg i hi).2 him) j hb));have hop':=PR hcall hrun';rw [hk] at hop'
   have hrel:RelB r (st m) w:=⟨fun i b x hb hx=>by
    have hi:i<(st m).next:=h.ext.rel.below hb;obtain ⟨ob,g1,g2⟩:=h.ext.rel.block i b x hb (by rw [Rho.Qn hi]; exact hx)
    exact ⟨ob,g1,g2.mono tl⟩,h.ext.rel.far⟩
   obtain ⟨u,h1,h2⟩:=hop'.2 r w a hrel fun x hx v' hv'=>(hcx x hx v' hv').mono tl;unfold Oper.wp;rw [h1];refine hK r _ w m (h.quiet hp he0 ho hD hr hD' (fun ⟨o',g1,g2⟩ => ?_) (fun ⟨o',g1,g2,_⟩ => ?_) hdi hv h2)
   ·rw [ho] at g1; cases g1; rw [hk] at g2; cases g2
   ·rw [ho] at g1; cases g1; rw [hk] at g2; cases g2
  | make =>
   rw [hk] at hop;obtain ⟨mk,b,rfl,hb,hmk⟩:=hop;obtain ⟨w',u,y,ob,h1,h2,h3,h4,h5,h6,h7,h8,h9⟩:=hmk _ w a hcx;obtain ⟨h10,h11⟩:=h9 (st j).next (Rho.XM (Nat.le_refl _));have hM:Made P ops e0 vs j:=⟨o,ho,hk,hw⟩
   obtain ⟨r',bE⟩:=h.made hp hcall he0 ho hD hr hD' hM (fun e=>by
    subst e;rcases hm with e | e
    ·omega
    ·exact hM.Lz e) hdi hv hb h2.1 h2.2 h3 h4 h5 h6 h7 h8 h10 h11
   unfold Oper.wp;rw [h1];exact hK r' _ w' m bE
  | eff =>
   have he:Jv P ops j:=⟨o,ho,by rw [hk]; rfl⟩
   have:=qi he;subst this
   exact hop.ok h.ext.rel hcx _ _ fun q u w' hx aP=>by
    obtain ⟨r',bE⟩:=h.effect hp hcall he0 ho hD hr hD' he hdi hv hx aP;exact hK r' _ w' _ bE
 ·rw [hwt.2 hw];simp only [Bool.false_eq_true,if_false];by_cases he:Jv P ops j
  ·have:=qi he;subst this;exact hK r _ w _ (h.Zfk hp he0 ho hD hr hD' he hdi hv (.tuple .nil) hs)
  ·refine hK r _ w _ (h.quiet hp he0 ho hD hr hD' he (fun ⟨o',g1,_,g2⟩ => ?_) hdi hv (.tuple .nil));rw [ho] at g1; cases g1; rw [hw] at g2; cases g2
theorem Yi {t:Tmp} {v:Zb}:∀ (L:List Oper) (vs:List Zb) (e:Env),vs.length=L.length->(JC K L vs e).get t=some v ->
  (∃ i,ZZ L i=some t/\(∀ k,i<k->ZZ L k≠some t)/\vs[i]? = some v/\K.Zf t=true)\/(((∀ k,ZZ L k≠some t)\/K.Zf t=false)/\e.get t=some v)
 | [],vs,e,_,h => .inr ⟨.inl fun k=>by simp [ZZ],by cases vs <;> exact h⟩
 | o::L,[],e,hl,h=>by cases hl
 | o::L,u::vs,e,hl,h=>by
  have h:(JC K L vs (Wk e u (Xb K o))).get t=some v:=h;rcases Yi L vs _ (by simpa using hl) h with ⟨i,h1,h2,h3,h4⟩ | ⟨h1,h2⟩
  ·refine .inl ⟨i+1,by simpa [ZZ] using h1,fun k hk => ?_,by simpa using h3,h4⟩;cases k with
   | zero=>omega
   | succ k=>simpa [ZZ] using h2 k (by omega)
  ·unfold Xb at h2;cases hd:o.dst with
   | none =>
    rw [hd] at h2;refine .inr ⟨h1.imp_left fun h1 k => ?_,h2⟩;cases k with
    | zero=>simp [ZZ,hd]
    | succ k=>simpa [ZZ] using h1 k
   | some d =>
    rw [hd] at h2;have h2:(Wk e u (sel (K.Zf d) (some (bits d)) none)).get t=some v:=h2;cases hk:K.Zf d
    ·rw [hk] at h2;refine .inr ⟨?_,h2⟩;by_cases hdt:d=t
     ·subst hdt; exact .inr hk
     ·refine h1.imp_left fun h1 k => ?_;cases k with
      | zero=>simp [ZZ,hd,hdt]
      | succ k=>simpa [ZZ] using h1 k
    ·rw [hk] at h2;have h2:(e.set d (some u)).get t=some v:=h2;rw [JN] at h2;by_cases hdt:d=t
     ·subst hdt;rw [if_pos rfl] at h2;cases h2;rcases h1 with h1 | h1
      ·refine .inl ⟨0,by simp [ZZ,hd],fun k hk' => ?_,rfl,hk⟩;cases k with
       | zero=>omega
       | succ k=>simpa [ZZ] using h1 k
      ·rw [hk] at h1; cases h1
     ·rw [if_neg hdt] at h2;refine .inr ⟨h1.imp_left fun h1 k => ?_,h2⟩;cases k with
      | zero=>simp [ZZ,hd,hdt]
      | succ k=>simpa [ZZ] using h1 k
theorem Iv.all (hp:Jc X P call K ops e0 vs st) (hcall:Z7 P call) (he0:Qr K r0 e0 a0) {D:Nat->Prop} (h:Iv P call K ops e0 vs st r0 w0 a0 D m r a w) (hall:∀ j,j<ops.toList.length->D j) :
  ∃ q,Ext r0 (st 0) w0 q (st ops.toList.length) w/\Qr K q (JC K ops.toList vs e0) a:=by
 obtain ⟨p,bE,hpe⟩:=h.full hp hcall _ rfl
 have hpN:p=ops.toList.length:=by
  rcases hpe with g | g
  ·exact g
  ·have g':=g;obtain ⟨o,h1,_⟩:=g';have hl:=(List.getElem?_eq_some_iff.1 h1).1;have:=(bE.Yg p g).1 (hall p hl);omega
 subst hpN
 have tl:∀ {i x},r i=some x->i<(st ops.toList.length).next:=fun {i x} hx=>by
  rcases bE.known i x hx with g | ⟨k,g1,g2,g3,g4⟩
  ·exact g
  ·have:=g3.lt; omega
 have ht:r.QC (st ops.toList.length).next=r:=Rho.Ds fun i x=>tl;have bD:=bE.ext;rw [ht] at bD;refine ⟨r,bD,fun t v hv => ?_,by rw [bE.size]; exact he0.size,bE.defs⟩
 have lt:∀ {k},ZZ ops.toList k=some t->k<ops.toList.length:=fun {k} hk=>by
  unfold ZZ at hk;rw [Option.bind_eq_some_iff] at hk;obtain ⟨o,h1,_⟩:=hk;exact (List.getElem?_eq_some_iff.1 h1).1
 rcases Yi ops.toList vs e0 hp.len hv with ⟨i,h1,h2,h3,h4⟩ | ⟨h1,h2⟩
 ·exact ⟨h4,bE.LB i t v (hall i (lt h1)) h1 (fun k hk _=>h2 k hk) h3⟩
 ·obtain ⟨h3,h4⟩:=he0.env t v h2;rcases h1 with h1 | h1
  ·exact ⟨h3,by rw [bE.LC t fun k _=>h1 k]; exact h4.mono bD.le⟩
  ·rw [h1] at h3; cases h3
theorem Zfl (hp:Jc X P call K ops e0 vs st) (hcall:Z7 P call) (hr0:Rel r0 (st 0) w0) (he0:Qr K r0 e0 a0) {Q:Exit->Act->World->Prop}
  (hQ:∀ q a' w',Ext r0 (st 0) w0 q (st ops.toList.length) w'->Qr K q (JC K ops.toList vs e0) a'->Q .normal a' w')
  (hS:∀ (fuel:Nat) (listed:Array Bool) (m j:Nat) (r:Rho) (a:Act) (w:World),listed.size=ops.size->Yh (listed.setIfInBounds j true).toList<=fuel->Iv P call K ops e0 vs st r0 w0 a0 (Lst listed) m r a w->X m j->(m=ops.toList.length\/Jv P ops m) ->
   ¬ Lst listed j->(∀ i,XU (Zw ops.toList []) j i->Lst listed i)->wpOp P ops Q j (fun a w=>wpAny P .any ops Q fuel (listed.setIfInBounds j true) a w) a w):∀ (fuel:Nat) (listed:Array Bool) (m:Nat) (r:Rho) (a:Act) (w:World),listed.size=ops.size ->
  Yh listed.toList<=fuel->Iv P call K ops e0 vs st r0 w0 a0 (Lst listed) m r a w->wpAny P .any ops Q fuel listed a w:=by
 have done:∀ (listed:Array Bool) (m:Nat) (r:Rho) (a:Act) (w:World),listed.size=ops.size->Iv P call K ops e0 vs st r0 w0 a0 (Lst listed) m r a w->Region.ready .any ops listed=[]->Q .normal a w:=by
  intro listed m r a w hsz bE iK
  have hall:∀ j,j<ops.toList.length->Lst listed j:=by
   intro j
   induction j using Nat.strongRecOn with
   | ind j ih =>
    intro hj;apply Classical.byContradiction;intro hn;have hjl:j<listed.size:=by rw [hsz]; simpa using hj
    have ho:ops.toList[j]? = some ops.toList[j]:=List.getElem?_eq_getElem hj
    have hin:j∈Region.ready .any ops listed:=mem_ready.2 ⟨by
     unfold Lst at hn;simp [hjl] at hn ⊢;exact hn,_,by rw [<- Array.getElem?_toList]; exact ho,fun e he hb=>by
     have hlt:=hp.back j _ ho e (Array.mem_toList_iff.2 he) hb
     exact ih e.on hlt (by omega)⟩
    rw [iK] at hin;cases hin
  obtain ⟨q,h1,h2⟩:=bE.all hp hcall he0 hall;exact hQ q a w h1 h2
 intro fuel
 induction fuel with
 | zero =>
  intro listed m r a w hsz hc bE
  have hnil:Region.ready .any ops listed=[]:=by
   cases hx:Region.ready .any ops listed with
   | nil=>rfl
   | cons j l =>
    have hj:j∈Region.ready .any ops listed:=by rw [hx]; exact List.mem_cons_self ..
    obtain ⟨h0,o,ho,_⟩:=mem_ready.1 hj;have hjl:j<listed.size:=by rw [hsz]; exact (Array.getElem?_eq_some_iff.1 ho).1
    refine absurd ?_ (S9 (l:=listed.toList) (i:=j) (by omega));rw [Array.getElem?_toList,Array.getElem?_eq_getElem hjl];simp [hjl] at h0;rw [h0]
  exact ⟨hnil,done listed m r a w hsz bE hnil⟩
 | succ fuel ih =>
  intro listed m r a w hsz hc bE;refine ⟨done listed m r a w hsz bE,fun j hj => ?_⟩;obtain ⟨h0,o,ho,hall⟩:=mem_ready.1 hj;have hjs:j<ops.size:=(Array.getElem?_eq_some_iff.1 ho).1;have hjl:j<listed.size:=by rw [hsz]; exact hjs
  have hlf:listed.toList[j]? = some false:=by
   rw [Array.getElem?_toList,Array.getElem?_eq_getElem hjl];simp [hjl] at h0;rw [h0]
  have ho':ops.toList[j]? = some o:=by rw [Array.getElem?_toList]; exact ho
  obtain ⟨p,lV,hpe⟩:=bE.full hp hcall _ rfl
  have hnl:¬ Lst listed j:=fun g=>by
   unfold Lst at g;simp [hjl] at h0 g;rw [h0] at g;cases g
  have hcl:=RY lV.closed ho' fun e he hb=>hall e (Array.mem_toList_iff.1 he) hb
  have hcn:Yh (listed.setIfInBounds j true).toList<=fuel:=by
   have:=LD hlf;rw [Array.toList_setIfInBounds];omega
  by_cases hX:X p j
  ·exact hS fuel listed p j r a w hsz hcn lV hX hpe hnl hcl
  refine lV.next hp hcall hr0 he0 hpe hX (D':=Lst (listed.setIfInBounds j true)) ho' hnl hcl (Du hjl) fun r' a' w' p' yj => ?_;exact ih _ p' r' a' w' (by simpa using hsz) hcn yj
end
theorem Zfm (hm:P.follows .mixedOrders=true) {call:Zz} {K:ZK} (hcall:Z7 P call) {id:Nat} {ops:Array Oper} (hg:BF P ops (Q7 P ops ops.toList (Zw ops.toList []))=true) :
  QJ P K (.region id ops true) (My (Qq P call K ops (Q7 P ops ops.toList (Zw ops.toList [])) ops.toList (Q7 P ops ops.toList (Zw ops.toList [])) 0 .nil)):=by
 intro e s x e' s' h r w a Q hr he hQ;obtain ⟨rfl,vs,st,hp,rfl,rfl,rfl⟩:=Zg4 hg h;refine wp_region_any hm ?_;have hr':Rel r (st 0) { w with drawn:=w.drawn+1 }:=hr.drawn _;have hst:=Iv.start (r0:=r) (w0:={ w with drawn:=w.drawn+1 }) (a0:=a) hp hr' he.defers;refine Zfl hp hcall hr' he (fun q a' w' hx he'=>hQ q a' w' ((Ext.drawn hr _).trans hx) he') (fun _ _ _ _ _ _ _ _ _ _ h=>h.elim) ops.size _ 0 r a _ (by simp) (by rw [Array.toList_replicate,LF]; exact Nat.le_refl _) ?_
 have:Lst (Array.replicate ops.size false)=fun _=>False:=by
  funext j
  unfold Lst;simp [Array.getElem?_replicate];split <;> simp
 rw [this];exact hst
end Ev
namespace Ev
open Go
variable [Sig] {P:Program} {X:Nat->Nat->Prop}
theorem Ext.forget {r q:Rho} {s t t':St} {w u:World} (h:Ext r s w q t u) (hs:∀ i b,t'.get i=some b->t.get i=some b) (hn:t'.next=t.next):Ext r s w q t' u where
 rel:=⟨⟨fun i b x hb hx=>h.rel.block i b x (hs i b hb) hx,fun i hi=>by
   cases e:t'.get i with
   | none=>rfl
   | some b=>have:=hs i b e; rw [h.rel.far i (hn▸hi)] at this; cases this⟩,
  fun i j b c x y hb hc=>h.rel.apart i j b c x y (hs i b hb) (hs j c hc),fun i x hx=>hn▸h.rel.known i x hx,
  fun i x g hx hg=>(h.rel.safe i x g hx hg).step (Nat.le_refl _) (fun _ _ _=>rfl) fun k ⟨i,b,x,hb,hx,hk⟩ => .inl ⟨i,b,x,hs i b hb,hx,hk⟩⟩
 le:=h.le
 next:=hn▸h.next
 os:=h.os
 tape:=h.tape
 output:=h.output
 size:=h.size
 frame:=h.frame
 still:=fun i hi hr b hb=>h.still i hi hr b (hs i b hb)
 dead:=fun i hi hg=>by
  cases e:t'.get i with
  | none=>rfl
  | some b=>have:=hs i b e; rw [h.dead i hi hg] at this; cases this
 XP:=fun k ⟨i,b,x,hb,hx,hk⟩=>h.XP k ⟨i,b,x,hs i b hb,hx,hk⟩
 fresh:=h.fresh
 Wl:=h.Wl
theorem GS {p:Pt} {a x:Qj} {l:List Zb} {e:Env} {s s':St} {v:Zb} (h:Kj p a x l e s = .ok v s') :
  ∃ id b,idV (Zl l e a)=some id/\v=QH/\s'=s.put id b/\∀ t:St,t.get id=s.get id->Kj p a x l e t = .ok v (t.put id b):=by
 cases hx:Zl l e x with
 | bad=>unfold Kj at h; rw [hx] at h; cases h
 | ok u =>
  cases ha:Zl l e a with
  | bad=>unfold Kj at h; rw [hx,ha] at h; cases h
  | ok c =>
   have hs:∀ t:St,Kj p a x l e t=SV t p u c:=fun t=>by unfold Kj; rw [hx,ha]; rfl
   rw [hs s] at h;unfold SV at h;split at h
   ·rename_i id off;have h:SU s p u id off (UY (s.get id)) = .ok v s':=h
    have hs':∀ t:St,t.get id=s.get id->Kj p a x l e t=SU t p u id off (UY (s.get id)):=fun t ht=>by
     rw [hs t];show SU t p u id off (UY (t.get id))=_;rw [ht]
    generalize UY (s.get id)=c at h hs'
    cases c with
    | bad=>cases h
    | mk cs ez o =>
     cases p with
     | bad=>cases h
     | mk fo n g =>
      have h:sel (Ws u.cells n) (putCells s id ez o (splice cs off u.cells)) .bad = .ok v s':=h;have lW:∀ t:St,t.get id=s.get id->Kj (.mk fo n g) a x l e t=sel (Ws u.cells n) (putCells t id ez o (splice cs off u.cells)) .bad:=hs';cases hl:Ws u.cells n
      ·rw [hl] at h; cases h
      ·rw [hl] at h lW;cases hsp:splice cs off u.cells with
       | none=>rw [hsp] at h; cases h
       | some cs' =>
        rw [hsp] at h lW;cases h;exact ⟨id,_,rfl,rfl,rfl,lW⟩
   ·cases h
theorem BV {p:Nat}:∀ (l:List DI) (i:Nat) (r:Option Nat),Ze6 l i r=some p->r=some p\/(i<=p/\p<i+l.length)
 | [],i,r,h => .inl h
 | x::l,i,r,h=>by
  rcases BV l (i+1) _ h with h1 | ⟨h1,h2⟩
  ·cases hx:x.eff
   ·rw [hx] at h1; exact .inl h1
   ·rw [hx] at h1; cases h1; exact .inr ⟨Nat.le_refl _,by rw [List.length_cons]; omega⟩
  ·exact .inr ⟨by omega,by rw [List.length_cons]; omega⟩
theorem LG {p bf:Nat}:∀ (l:List DI) (i:Nat),Mz p bf l i=true->∀ k x,l[k]? = some x->x.eff=true->i+k=p\/Nat.testBit bf (i+k)=true
 | [],_,_,k,x,hx,_=>by simp at hx
 | y::l,i,h,k,x,hx,he=>by
  have h:sel (sel y.eff (sel (Nat.beq i p) true (Nat.testBit bf i)) true) (Mz p bf l (i+1)) false=true:=h;rcases Ze h with ⟨h1,h2⟩ | ⟨_,h2⟩
  ·cases k with
   | zero =>
    cases hx;rw [he] at h1;have h1:sel (Nat.beq i p) true (Nat.testBit bf i)=true:=h1;rcases Ze h1 with ⟨g1,_⟩ | ⟨_,g2⟩
    ·exact .inl (Nat.eq_of_beq_eq_true g1)
    ·exact .inr g2
   | succ k =>
    have:=LG l (i+1) h2 k x (by simpa using hx) he;rw [show i+(k+1)=i+1+k by omega];exact this
  ·cases h2
theorem Zj9 {k:Kd} (h:k.isP=true):k = .pure:=by cases k <;> first | rfl | cases h
theorem BW {p bf:Nat}:∀ (l:List Oper) (i:Nat),ZaQ P p bf l i=true->∀ k o,l[k]? = some o->i+k=p\/WL P o.op = .pure\/(i+k<=p/\Nat.testBit bf (i+k)=true)
 | [],_,_,k,x,hx=>by simp at hx
 | y::l,i,h,k,x,hx=>by
  have h:sel (sel (Nat.beq i p) true (sel (WL P y.op).isP true (sel (Nat.blt p i) false (Nat.testBit bf i)))) (ZaQ P p bf l (i+1)) false=true:=h;rcases Ze h with ⟨h1,h2⟩ | ⟨_,h2⟩
  ·cases k with
   | zero =>
    cases hx;rcases Ze h1 with ⟨g1,_⟩ | ⟨_,g2⟩
    ·exact .inl (Nat.eq_of_beq_eq_true g1)
    ·rcases Ze g2 with ⟨g1,_⟩ | ⟨_,g2⟩
     ·exact .inr (.inl (Zj9 g1))
     ·rcases Ze g2 with ⟨_,g2⟩ | ⟨g1,g2⟩
      ·cases g2
      ·refine .inr (.inr ⟨?_,g2⟩)
       have:¬ p<i+0:=fun hlt=>by
        have h3:Nat.blt p i=true:=Nat.ble_eq_true_of_le hlt;rw [h3] at g1; cases g1
       omega
   | succ k =>
    have:=BW l (i+1) h2 k x (by simpa using hx);rw [show i+(k+1)=i+1+k by omega];exact this
  ·cases h2
theorem GU {o:Oper} {a:Operand} (h:KM o=some a):∃ t x,o.op = .store t a x/\o.guard=none:=by
 unfold KM at h;split at h
 ·rename_i h1 h2;cases h;exact ⟨_,_,h1,h2⟩
 ·cases h
theorem GV {α : Type} {o:Option α} (h:isSome o=true):∃ a,o=some a:=by
 cases o with
 | none=>cases h
 | some a=>exact ⟨a,rfl⟩
structure Zh6 (P:Program) (ops:Array Oper) (e0:Env) (vs:List Zb) (p n:Nat):Prop where
 len:ops.toList.length=n+1
 lt:p<n
 st1:∃ o t a x,ops.toList[p]? = some o/\o.op = .store t a x/\o.guard=none
 st2:∃ o t a x,ops.toList[n]? = some o/\o.op = .store t a x/\o.guard=none
 pure:∀ i o,i<n->ops.toList[i]? = some o->i=p\/WL P o.op = .pure\/(i<=p/\XU (Zw ops.toList []) n i)
 apart:∃ i j,He ops e0 vs p=some i/\He ops e0 vs n=some j/\i≠j
theorem Zfn {call:Zz} {K:ZK} {ops:Array Oper} {e0 e':Env} {s s':St} {x:Ex} {p:Nat} (hg:BH P ops (Q7 P ops ops.toList (Zw ops.toList []))=some p)
  (h:IJ ops p (Qq P call K ops (Q7 P ops ops.toList (Zw ops.toList [])) ops.toList (Q7 P ops ops.toList (Zw ops.toList [])) 0 .nil) e0 s = .ok x e' s') :
  x = .normal/\∃ (vs:List Zb) (st:Nat->St) (n:Nat),Jc (fun i j=>i=p/\j=n) P call K ops e0 vs st/\st 0=s/\st ops.toList.length=s'/\e'=JC K ops.toList vs e0/\Zh6 P ops e0 vs p n:=by
 have hdl:=Vf (P:=P) (ops:=ops) ops.toList (Zw ops.toList []) (Lx ops.toList)
 have hat:∀ j o,ops.toList[j]? = some o->∃ b,(Zw ops.toList [])[j]? = some b/\(Q7 P ops ops.toList (Zw ops.toList []))[j]? = some (Lg P ops o b):=fun j o hj=>by
  obtain ⟨b,hb⟩:=Zfj ops.toList (List.getElem?_eq_some_iff.1 hj).1;exact ⟨b,hb,Lu ops.toList _ j hj hb⟩
 generalize fM:Q7 P ops ops.toList (Zw ops.toList [])=ah at h hg hdl hat
 have h:runT ops p e0 (Qq P call K ops ah ops.toList ah 0 .nil) (Hb e0 (Qq P call K ops ah ops.toList ah 0 .nil) [] e0 s []) = .ok x e' s':=h;unfold BH at hg;split at hg
 ·rename_i y p' o hy hp' ho;rcases Ze hg with ⟨g1,hg⟩ | ⟨_,hg⟩
  ·rcases Ze hg with ⟨g2,hg⟩ | ⟨_,hg⟩
   ·rcases Ze hg with ⟨g3,hg⟩ | ⟨_,hg⟩
    ·rcases Ze hg with ⟨g4,hg⟩ | ⟨_,hg⟩
     ·rcases Ze hg with ⟨g5,hg⟩ | ⟨_,hg⟩
      ·rcases Ze hg with ⟨g6,hg⟩ | ⟨_,hg⟩
       ·cases hg
        have hpos:0<ah.length:=by
         cases ah with
         | nil=>cases hy
         | cons _ _=>exact Nat.succ_pos _
        obtain ⟨n,hn⟩:∃ n,ah.length=n+1:=⟨ah.length-1,by omega⟩
        have hyn:ah[n]? = some y:=by rw [List.getLast?_eq_getElem?,hn] at hy; exact hy
        have hon:ops.toList[n]? = some o:=by rw [List.getLast?_eq_getElem?,<- hdl,hn] at ho; exact ho
        have hdrop:∀ {i},i<n->ah.dropLast[i]? = ah[i]? := fun {i} hi=>by
         rw [List.getElem?_dropLast,hn,if_pos (by omega)]
        have lX:∀ {i},i<n->ops.toList.dropLast[i]? = ops.toList[i]? := fun {i} hi=>by
         rw [List.getElem?_dropLast,<- hdl,hn,if_pos (by omega)]
        have jS:ah.dropLast.length=n:=by rw [List.length_dropLast,hn]; rfl
        have hcl:∀ i j x y,i<j->ah[i]? = some x->ah[j]? = some y->Xx x (Hc y)=true->Nat.testBit y.bf i=true:=fun i j x z hij hi hj hc=>by
         have hjn:j<=n:=by have:=(List.getElem?_eq_some_iff.1 hj).1; omega
         have hi':(ah.dropLast++[Hc y])[i]? = some x:=by rw [List.getElem?_append_left (by omega),hdrop (by omega)]; exact hi
         rcases Nat.lt_or_ge j n with hlt | hge
         ·refine KP _ [] g2 j z (by rw [List.getElem?_append_left (by omega),hdrop hlt]; exact hj) i x (by rw [List.nil_append]; exact hi') (by simpa using hij) (GO hc)
         ·have:j=n:=by omega
          subst this;rw [hyn] at hj;cases hj;exact KP _ [] g2 j (Hc y) (by rw [List.getElem?_append_right (by omega),jS]; simp) i x (by rw [List.nil_append]; exact hi') (by simpa using hij) hc
        have hef:∀ i j x y,i<j->¬ (i=p/\j=n)->ah[i]? = some x->ah[j]? = some y->x.eff=true->y.eff=true->Nat.testBit y.bf i=true:=fun i j x z hij hX hi hj hx hz=>by
         have hjn:j<=n:=by have:=(List.getElem?_eq_some_iff.1 hj).1; omega
         rcases Nat.lt_or_ge j n with hlt | hge
         ·refine KP _ [] g2 j z (by rw [List.getElem?_append_left (by omega),hdrop hlt]; exact hj) i x (by rw [List.nil_append,List.getElem?_append_left (by omega),hdrop (by omega)]; exact hi) (by simpa using hij) (Lv hx hz)
         ·have:j=n:=by omega
          subst this;rw [hyn] at hj;cases hj;rcases LG _ 0 g3 i x (by rw [hdrop (by omega)]; exact hi) hx with g | g
          ·exact absurd ⟨by omega,rfl⟩ hX
          ·rw [Nat.zero_add] at g; exact g
        cases hr:Hb e0 (Qq P call K ops ah ops.toList ah 0 .nil) [] e0 s [] with
        | bad=>rw [hr] at h; cases h
        | ok L E S SS =>
         rw [hr] at h;have h:sel (Df (He ops e0 L.reverse p) (He ops e0 L.reverse (L.length-1))) (Lk e0 (Qq P call K ops ah ops.toList ah 0 .nil) (.ok L E S SS)) .bad = .ok x e' s':=h;rcases Ze h with ⟨hu,h⟩ | ⟨_,h⟩
         ·obtain ⟨h1,vs,st,h2,h3,h4,h5,h6⟩:=GP (X:=fun i j=>i=p/\j=n) fM hr h g1 hcl hef;refine ⟨h1,vs,st,n,h2,h3,h4,h5,⟨by omega,?_,?_,?_,?_,?_⟩⟩
          ·rcases BV _ _ _ hp' with g | ⟨_,g⟩
           ·cases g
           ·rw [jS] at g; omega
          ·obtain ⟨a,ha⟩:=GV g6;rw [Option.bind_eq_some_iff] at ha;obtain ⟨o',g7,g8⟩:=ha;obtain ⟨t,z,g9,g10⟩:=GU g8;exact ⟨o',t,a,z,g7,g9,g10⟩
          ·obtain ⟨a,ha⟩:=GV g5;obtain ⟨t,z,g9,g10⟩:=GU ha;exact ⟨o,t,a,z,hon,g9,g10⟩
          ·intro i o' hi ho';obtain ⟨b,hb1,hb2⟩:=hat n o hon;rw [hyn] at hb2;cases hb2;rcases BW _ 0 g4 i o' (by rw [lX hi]; exact ho') with g | g | ⟨g,g'⟩
           ·exact .inl (by omega)
           ·exact .inr (.inl g)
           ·rw [Nat.zero_add] at g g';exact .inr (.inr ⟨g,b,hb1,g'⟩)
          ·have hL:L.length-1=n:=by
            have:=h2.len;rw [h6,List.length_reverse] at this;omega
           rw [hL,<- h6] at hu;unfold Df at hu;split at hu
           ·rename_i i j hi hj;refine ⟨i,j,hi,hj,fun e => ?_⟩;subst e;rw [Nat.beq_refl] at hu;cases hu
           ·cases hu
         ·cases h
       ·cases hg
      ·cases hg
     ·cases hg
    ·cases hg
   ·cases hg
  ·cases hg
 ·cases hg
end Ev
namespace Ev
open Go
variable [Sig] {P:Program} {X:Nat->Nat->Prop}
section
variable {call:Zz} {K:ZK} {ops:Array Oper} {e0:Env} {vs:List Zb} {st:Nat->St}
variable {r0:Rho} {w0:World} {a0:Act} {D D':Nat->Prop} {m:Nat} {r:Rho} {a:Act} {w:World}
structure Ia (ops:Array Oper) (vs:List Zb) (r0:Rho) (a0:Act) (D:Nat->Prop) (r:Rho) (a:Act):Prop where
 closed:Dl (Zw ops.toList []) D
 le:r0.le r
 LB:∀ i t v,D i->ZZ ops.toList i=some t->(∀ k,i<k->D k->ZZ ops.toList k≠some t)->vs[i]? = some v->VR r v (a.tmps.getD t undef)
 LC:∀ t,(∀ k,D k->ZZ ops.toList k≠some t)->a.tmps.getD t undef=a0.tmps.getD t undef
 size:a.tmps.size=a0.tmps.size
 defs:a.defers=[]
theorem Iv.ia (h:Iv P call K ops e0 vs st r0 w0 a0 D m r a w):Ia ops vs r0 a0 D r a :=
 ⟨h.closed,fun i x hx=>(Rho.Ko (h.ext.le i x hx)).2,h.LB,h.LC,h.size,h.defs⟩
theorem Ia.cx (hp:Jc X P call K ops e0 vs st) (he0:Qr K r0 e0 a0) (h:Ia ops vs r0 a0 D r a) {j:Nat} {o:Oper} (ho:ops.toList[j]? = some o) (hD:¬ D j)
  (hr:∀ i,XU (Zw ops.toList []) j i->D i) {t:Tmp} (ht:t∈Dm ops o) {v:Zb} (hv:Zl (vs.take j).reverse e0 (Xy ops j (.tmp t)) = .ok v):VR r v (a.tmps.getD t undef):=by
 have hjl:=(List.getElem?_eq_some_iff.1 ho).1;have behind:∀ k,j<k->D k->ZZ ops.toList k≠some t:=fun k hjk ay hk=>hD (h.closed k ay j ((hp.reads k j o t ho ht hk).2 hjk));rcases Ls (Nat.le_of_lt hjl) hp.len hv with ⟨i,hij,hdi,hlast,fZ⟩ | ⟨hnone,hget⟩
 ·have lU:D i:=hr i ((hp.reads i j o t ho ht hdi).1 hij)
  exact h.LB i t v lU hdi (fun k hik ay hk=>by
   rcases Nat.lt_trichotomy k j with g | g | g
   ·exact hlast k hik g hk
   ·subst g; exact hD ay
   ·exact behind k g ay hk) fZ
 ·rw [h.LC t fun k ay hk=>by
   rcases Nat.lt_trichotomy k j with g | g | g
   ·exact hnone k g hk
   ·subst g; exact hD ay
   ·exact behind k g ay hk]
  exact (he0.env t v hget).2.mono h.le
theorem Ia.cxs (hp:Jc X P call K ops e0 vs st) (he0:Qr K r0 e0 a0) (h:Ia ops vs r0 a0 D r a) {j:Nat} {o:Oper} (ho:ops.toList[j]? = some o) (hD:¬ D j)
  (hr:∀ i,XU (Zw ops.toList []) j i->D i):Cx r (vs.take j).reverse e0 (Xy ops j) a o.op:=by
 intro x hx v hv;cases x with
 | tmp t=>exact h.cx hp he0 ho hD hr (List.mem_append_left _ (XG (Array.mem_toList_iff.2 hx))) hv
 | const u =>
  have hv:Zl (vs.take j).reverse e0 (P9 u) = .ok v:=hv;unfold P9 at hv;split at hv
  ·rename_i b hb;cases hv;exact SY _ u _ hb
  ·cases hv
 | func f =>
  cases hv;exact .func f .nil .nil
 | _=>cases hv
theorem Ia.put (hp:Jc X P call K ops e0 vs st) (he0:Qr K r0 e0 a0) (h:Ia ops vs r0 a0 D r a) {j:Nat} {o:Oper} (ho:ops.toList[j]? = some o) (hdi:QB K o=true) (hD:¬ D j)
  (hr:∀ i,XU (Zw ops.toList []) j i->D i) (hD':∀ k,D' k↔D k\/k=j) {r':Rho} (hle:r.le r') {v:Zb} {u:Value} (hv:vs[j]? = some v) (aP:VR r' v u):Ia ops vs r0 a0 D' r' (a.put o.dst u):=by
 have hdst:ZZ ops.toList j=o.dst:=by unfold ZZ; rw [ho]; rfl
 have dw:D' j:=(hD' j).2 (.inr rfl)
 have ne:∀ {t},o.dst≠some t->(a.put o.dst u).tmps.getD t undef=a.tmps.getD t undef:=fun {t} hn=>by
  cases hd:o.dst with
  | none=>rfl
  | some d=>exact Ju fun e=>hn (by rw [hd,e])
 refine ⟨fun k hk i hi => ?_,Rho.le_trans h.le hle,fun i t v' lU hit hlast fZ => ?_,fun t hn => ?_,by rw [RW]; exact h.size,by rw [RX]; exact h.defs⟩
 ·rcases (hD' k).1 hk with g | g
  ·exact (hD' i).2 (.inl (h.closed k g i hi))
  ·subst g; exact (hD' i).2 (.inl (hr i hi))
 ·by_cases hij:i=j
  ·subst hij;rw [hv] at fZ;cases fZ;rw [hdst] at hit;rw [hit];rw [JJ]
   ·exact aP
   ·unfold QB at hdi;rw [hit] at hdi;rw [h.size];exact Nat.lt_of_lt_of_le (QI hdi) he0.size
  ·have iJ:D i:=((hD' i).1 lU).resolve_right hij
   have hn:o.dst≠some t:=fun e=>by
    rcases Nat.lt_or_ge i j with g | g
    ·exact hlast j g dw (by rw [hdst,e])
    ·exact hD (h.closed i iJ j (hp.writes j i t (by omega) (by rw [hdst,e]) hit))
   rw [ne hn];exact (h.LB i t v' iJ hit (fun k hik ay=>hlast k hik ((hD' k).2 (.inl ay))) fZ).mono hle
 ·rw [ne (fun e=>hn j dw (by rw [hdst,e]))];exact h.LC t fun k ay=>hn k ((hD' k).2 (.inl ay))
theorem Ia.env (hp:Jc X P call K ops e0 vs st) (he0:Qr K r0 e0 a0) (h:Ia ops vs r0 a0 D r a) (hall:∀ j,j<ops.toList.length->D j):Qr K r (JC K ops.toList vs e0) a:=by
 refine ⟨fun t v hv => ?_,by rw [h.size]; exact he0.size,h.defs⟩
 have lt:∀ {k},ZZ ops.toList k=some t->k<ops.toList.length:=fun {k} hk=>by
  unfold ZZ at hk;rw [Option.bind_eq_some_iff] at hk;obtain ⟨o,h1,_⟩:=hk;exact (List.getElem?_eq_some_iff.1 h1).1
 rcases Yi ops.toList vs e0 hp.len hv with ⟨i,h1,h2,h3,h4⟩ | ⟨h1,h2⟩
 ·exact ⟨h4,h.LB i t v (hall i (lt h1)) h1 (fun k hk _=>h2 k hk) h3⟩
 ·obtain ⟨h3,h4⟩:=he0.env t v h2;rcases h1 with h1 | h1
  ·exact ⟨h3,by rw [h.LC t fun k _=>h1 k]; exact h4.mono h.le⟩
  ·rw [h1] at h3; cases h3
theorem EB (hp:Jc X P call K ops e0 vs st) {listed:Array Bool} (hsz:listed.size=ops.size) (iK:Region.ready .any ops listed=[]):∀ j,j<ops.toList.length->Lst listed j:=by
 intro j
 induction j using Nat.strongRecOn with
 | ind j ih =>
  intro hj;apply Classical.byContradiction;intro hn;have hjl:j<listed.size:=by rw [hsz]; simpa using hj
  have ho:ops.toList[j]? = some ops.toList[j]:=List.getElem?_eq_getElem hj
  have hin:j∈Region.ready .any ops listed:=mem_ready.2 ⟨by
   unfold Lst at hn;simp [hjl] at hn ⊢;exact hn,_,by rw [<- Array.getElem?_toList]; exact ho,fun e he hb=>by
   have hlt:=hp.back j _ ho e (Array.mem_toList_iff.2 he) hb
   exact ih e.on hlt (by omega)⟩
  rw [iK] at hin;cases hin
theorem Zg6 (hp:Jc X P call K ops e0 vs st) (hcall:Z7 P call) (he0:Qr K r0 e0 a0) {Q:Exit->Act->World->Prop} {s2 s3:St} {p:Nat} {op:Oper} (hop:ops.toList[p]? = some op)
  (hQ:∀ q a' w',Ext r0 (st 0) w0 q (st ops.toList.length) w'->Qr K q (JC K ops.toList vs e0) a'->Q .normal a' w')
  {v1:Zb} (hv1:vs[p]? = some v1) (hrun:(comp (Xy ops p) P call op.op).run (vs.take p).reverse e0 s2 = .ok v1 s3) (hgd:op.guard=none) (hkd:WL P op.op = .eff)
  (hs3:∀ i b,(st ops.toList.length).get i=some b->s3.get i=some b) (kC:(st ops.toList.length).next=s3.next) (lY:QB K op=true) :
  ∀ (fuel:Nat) (listed:Array Bool) (r:Rho) (a:Act) (w:World),listed.size=ops.size->Yh listed.toList<=fuel->Ia ops vs r0 a0 (Lst listed) r a ->
   (∀ j o,ops.toList[j]? = some o->¬ Lst listed j->j=p\/WL P o.op = .pure)->((¬ Lst listed p/\Ext r0 (st 0) w0 r s2 w)\/(Lst listed p/\Ext r0 (st 0) w0 r (st ops.toList.length) w)) ->
   wpAny P .any ops Q fuel listed a w:=by
 have done:∀ (listed:Array Bool) (r:Rho) (a:Act) (w:World),listed.size=ops.size->Ia ops vs r0 a0 (Lst listed) r a->((¬ Lst listed p/\Ext r0 (st 0) w0 r s2 w)\/(Lst listed p/\Ext r0 (st 0) w0 r (st ops.toList.length) w)) ->
   Region.ready .any ops listed=[]->Q .normal a w:=by
  intro listed r a w hsz hia hex iK;have hall:=EB hp hsz iK;rcases hex with ⟨g,_⟩ | ⟨_,hx⟩
  ·exact absurd (hall p (List.getElem?_eq_some_iff.1 hop).1) g
  ·exact hQ r a w hx (hia.env hp he0 hall)
 intro fuel
 induction fuel with
 | zero =>
  intro listed r a w hsz hc hia yl hex
  have hnil:Region.ready .any ops listed=[]:=by
   cases hx:Region.ready .any ops listed with
   | nil=>rfl
   | cons j l =>
    have hj:j∈Region.ready .any ops listed:=by rw [hx]; exact List.mem_cons_self ..
    obtain ⟨h0,o,ho,_⟩:=mem_ready.1 hj;have hjl:j<listed.size:=by rw [hsz]; exact (Array.getElem?_eq_some_iff.1 ho).1
    refine absurd ?_ (S9 (l:=listed.toList) (i:=j) (by omega));rw [Array.getElem?_toList,Array.getElem?_eq_getElem hjl];simp [hjl] at h0;rw [h0]
  exact ⟨hnil,done listed r a w hsz hia hex hnil⟩
 | succ fuel ih =>
  intro listed r a w hsz hc hia yl hex;refine ⟨done listed r a w hsz hia hex,fun j hj => ?_⟩;obtain ⟨h0,o,ho,hall⟩:=mem_ready.1 hj;have hjs:j<ops.size:=(Array.getElem?_eq_some_iff.1 ho).1;have hjl:j<listed.size:=by rw [hsz]; exact hjs
  have hlf:listed.toList[j]? = some false:=by
   rw [Array.getElem?_toList,Array.getElem?_eq_getElem hjl];simp [hjl] at h0;rw [h0]
  have ho':ops.toList[j]? = some o:=by rw [Array.getElem?_toList]; exact ho
  have hnl:¬ Lst listed j:=fun g=>by
   unfold Lst at g;simp [hjl] at h0 g;rw [h0] at g;cases g
  have hcl:=RY hia.closed ho' fun e he hb=>hall e (Array.mem_toList_iff.1 he) hb
  have hcn:Yh (listed.setIfInBounds j true).toList<=fuel:=by
   have:=LD hlf;rw [Array.toList_setIfInBounds];omega
  have hD':=Du hjl (l:=listed);have lZ:∀ k o,ops.toList[k]? = some o->¬ Lst (listed.setIfInBounds j true) k->k=p\/WL P o.op = .pure:=fun k o hk hn=>yl k o hk fun g=>hn ((hD' k).2 (.inl g));have hwt:=YM (r:=r) (l:=(vs.take j).reverse) (e0:=e0) (co:=Xy ops j) (a:=a) (ops:=ops) (o:=o) fun t ht v' hv'=>hia.cx hp he0 ho' hnl hcl (List.mem_append_right _ ht) hv';have hcx:=hia.cxs hp he0 ho' hnl hcl;unfold wpOp;rw [ho];simp only;by_cases hjp:j=p
  ·subst hjp;rw [hop] at ho';cases ho';have hw:wanted (vs.take j).reverse e0 (guardOf (Xy ops j) ops op) = .yes:=by unfold guardOf; rw [hgd]; rfl
   rw [hwt.1 hw,if_pos rfl];refine .inl ?_;rcases hex with ⟨_,hx⟩ | ⟨g,_⟩
   ·have hr:=PR hcall hrun;refine hr.ok hx.rel hcx _ _ fun q u w' hx' aP => ?_;exact ih _ q _ w' (by simpa using hsz) hcn (hia.put hp he0 hop lY hnl hcl hD' hx'.le hv1 aP) lZ (.inr ⟨(hD' j).2 (.inr rfl),(hx.trans hx').forget hs3 kC⟩)
   ·exact absurd g hnl
  ·have hk:=(yl j o ho' hnl).resolve_left hjp;obtain ⟨v,hv,hdi,_,_,hst⟩:=hp.step j o ho'
   have hex':(¬ Lst (listed.setIfInBounds j true) p/\Ext r0 (st 0) w0 r s2 w)\/(Lst (listed.setIfInBounds j true) p/\Ext r0 (st 0) w0 r (st ops.toList.length) w):=by
    rcases hex with ⟨g1,g2⟩ | ⟨g1,g2⟩
    ·exact .inl ⟨fun g=>((hD' p).1 g).elim g1 fun e=>hjp e.symm,g2⟩
    ·exact .inr ⟨(hD' p).2 (.inl g1),g2⟩
   rcases hst with ⟨hw,hrun'⟩ | ⟨hw,rfl,_⟩
   ·rw [hwt.1 hw,if_pos rfl];refine .inl ?_;have hr:=PR hcall hrun';rw [hk] at hr;obtain ⟨u,h1,h2⟩:=hr.2 r w a hcx;unfold Oper.wp;rw [h1];exact ih _ r _ w (by simpa using hsz) hcn (hia.put hp he0 ho' hdi hnl hcl hD' r.le_refl hv h2) lZ hex'
   ·rw [hwt.2 hw];simp only [Bool.false_eq_true,if_false];exact ih _ r _ w (by simpa using hsz) hcn (hia.put hp he0 ho' hdi hnl hcl hD' r.le_refl hv (.tuple .nil)) lZ hex'
theorem Jc.still (hp:Jc X P call K ops e0 vs st) (hcall:Z7 P call) {p:Nat}:∀ (d:Nat),p+d<=ops.toList.length->(∀ i o,p<=i->i<p+d->ops.toList[i]? = some o->WL P o.op = .pure)->st (p+d)=st p
 | 0,_,_=>rfl
 | d+1,hl,hk=>by
  have h1:=Jc.still hp hcall d (by omega) fun i o h1 h2=>hk i o h1 (by omega);have ho:ops.toList[p+d]? = some ops.toList[p+d]:=List.getElem?_eq_getElem (by omega);have hkd:=hk _ _ (Nat.le_add_right p d) (by omega) ho;rcases hp.Dt hcall (j:=p+d) (by omega) (fun ⟨o,g1,g2⟩=>by rw [ho] at g1; cases g1; rw [hkd] at g2; cases g2) with ⟨⟨o,g1,g2,_⟩,_⟩ | ⟨_,h2⟩
  ·rw [ho] at g1; cases g1; rw [hkd] at g2; cases g2
  ·rw [show p+(d+1)=p+d+1 by omega,h2,h1]
theorem Zka (hm:P.follows .mixedOrders=true) {n p:Nat} (hp:Jc (fun i j=>i=p/\j=n) P call K ops e0 vs st) (ht:Zh6 P ops e0 vs p n) (hcall:Z7 P call) (hr0:Rel r0 (st 0) w0) (he0:Qr K r0 e0 a0) {Q:Exit->Act->World->Prop}
  (hQ:∀ q a' w',Ext r0 (st 0) w0 q (st ops.toList.length) w'->Qr K q (JC K ops.toList vs e0) a'->Q .normal a' w') :
  ∀ (fuel:Nat) (listed:Array Bool) (m j:Nat) (r:Rho) (a:Act) (w:World),listed.size=ops.size->Yh (listed.setIfInBounds j true).toList<=fuel->Iv P call K ops e0 vs st r0 w0 a0 (Lst listed) m r a w->(m=p/\j=n) ->
   (m=ops.toList.length\/Jv P ops m)->¬ Lst listed j->(∀ i,XU (Zw ops.toList []) j i->Lst listed i)->wpOp P ops Q j (fun a w=>wpAny P .any ops Q fuel (listed.setIfInBounds j true) a w) a w:=by
 rintro fuel listed m j r a w hsz hcn bE ⟨hmp,hjn⟩ hme hnl hcl;have acD:=hmp;subst hmp;subst hjn;obtain ⟨o1,t1,a1,x1,ho1,jo,hg1⟩:=ht.st1;obtain ⟨o2,t2,a2,x2,ho2,jq,hg2⟩:=ht.st2;have hlt:=ht.lt;have hlen:=ht.len;have hk1:WL P o1.op = .eff:=by rw [jo]; rfl
 have hk2:WL P o2.op = .eff:=by rw [jq]; rfl
 have he1:Jv P ops m:=⟨o1,ho1,by rw [hk1]; rfl⟩
 have hnp:¬ Lst listed m:=fun g=>absurd ((bE.Yg m he1).1 g) (by omega)
 have l5:∀ k,m<=k->¬ Made P ops e0 vs k:=fun k hk ⟨o,g1,g2,_⟩=>by
  have hkl:=(List.getElem?_eq_some_iff.1 g1).1;rcases Nat.lt_or_ge k j with hlt | hge
  ·rcases ht.pure k o hlt g1 with g | g | ⟨g,_⟩
   ·subst g; rw [ho1] at g1; cases g1; rw [hk1] at g2; cases g2
   ·rw [g] at g2; cases g2
   ·have:k=m:=by omega
    subst this; rw [ho1] at g1; cases g1; rw [hk1] at g2; cases g2
  ·have:k=j:=by omega
   subst this; rw [ho2] at g1; cases g1; rw [hk2] at g2; cases g2
 have dO:r.QC (st m).next=r:=Rho.Ds fun i x hx=>by
  rcases bE.known i x hx with g | ⟨k,g1,_,g3,_⟩
  ·exact g
  ·exact absurd g3 (l5 k g1)
 have bD:=bE.ext;rw [dO] at bD;obtain ⟨v1,hv1,lY,_,_,hs1⟩:=hp.step m o1 ho1;obtain ⟨v2,hv2,ym,_,_,hs2⟩:=hp.step j o2 ho2;have w1:wanted (vs.take m).reverse e0 (guardOf (Xy ops m) ops o1) = .yes:=by unfold guardOf; rw [hg1]; rfl
 have w2:wanted (vs.take j).reverse e0 (guardOf (Xy ops j) ops o2) = .yes:=by unfold guardOf; rw [hg2]; rfl
 have r1:(comp (Xy ops m) P call o1.op).run (vs.take m).reverse e0 (st m) = .ok v1 (st (m+1)):=by
  rcases hs1 with ⟨_,g⟩ | ⟨g,_⟩
  ·exact g
  ·rw [w1] at g; cases g
 have r2:(comp (Xy ops j) P call o2.op).run (vs.take j).reverse e0 (st j) = .ok v2 (st (j+1)):=by
  rcases hs2 with ⟨_,g⟩ | ⟨g,_⟩
  ·exact g
  ·rw [w2] at g; cases g
 have hst:st j=st (m+1):=by
  have:=hp.still hcall (p:=m+1) (j-(m+1)) (by omega) fun i o h1 h2 ho=>by
   rcases ht.pure i o (by omega) ho with g | g | ⟨g,_⟩
   ·omega
   ·exact g
   ·omega
  rw [show m+1+(j-(m+1))=j by omega] at this;exact this
 rw [jo] at r1;rw [jq] at r2;obtain ⟨sD,b1,yn,acF,hb1,qj⟩:=GS (p:=JS P t1) r1;obtain ⟨l6,b2,yo,acG,hb2,jT⟩:=GS (p:=JS P t2) r2
 have hne:sD≠l6:=by
  obtain ⟨i,k,g1,g2,g3⟩:=ht.apart
  have e1:He ops e0 vs m=idV (Zl (vs.take m).reverse e0 (Xy ops m a1)):=by
   unfold He;rw [show (ops.toList[m]?).bind KM=some a1 by rw [ho1]; show KM o1=some a1; unfold KM; rw [jo,hg1]]
  have e2:He ops e0 vs j=idV (Zl (vs.take j).reverse e0 (Xy ops j a2)):=by
   unfold He;rw [show (ops.toList[j]?).bind KM=some a2 by rw [ho2]; show KM o2=some a2; unfold KM; rw [jq,hg2]]
  rw [e1,yn] at g1;rw [e2,yo] at g2;cases g1;cases g2;exact g3
 rw [hst,hb1] at hb2 jT;have r2':=jT (st m) (by rw [St.Jb,if_neg hne]);have r1':=qj ((st m).put l6 b2) (by rw [St.Jb,if_neg (Ne.symm hne)]);have hia:=bE.ia;have hcx:=hia.cxs hp he0 ho2 hnl hcl
 have hjl:j<listed.size:=by
  rw [hsz];have:=(List.getElem?_eq_some_iff.1 ho2).1;simpa using this
 have hD':=Du hjl (l:=listed);have hwt:=YM (r:=r) (l:=(vs.take j).reverse) (e0:=e0) (co:=Xy ops j) (a:=a) (ops:=ops) (o:=o2) fun t ht v' hv'=>hia.cx hp he0 ho2 hnl hcl (List.mem_append_right _ ht) hv';unfold wpOp;rw [show ops[j]? = some o2 by rw [<- Array.getElem?_toList]; exact ho2];simp only;rw [hwt.1 w2,if_pos rfl];refine .inl ?_;have hr2:(comp (Xy ops j) P call o2.op).run (vs.take j).reverse e0 (st m) = .ok v2 ((st m).put l6 b2):=by rw [jq]; exact r2'
 have hr1:(comp (Xy ops m) P call o1.op).run (vs.take m).reverse e0 ((st m).put l6 b2) = .ok v1 (((st m).put l6 b2).put sD b1):=by rw [jo]; exact r1'
 refine (PR hcall hr2).ok bD.rel hcx _ _ fun q u w' hx aP => ?_;have hN:st ops.toList.length=((st m).put sD b1).put l6 b2:=by rw [hlen,hb2]
 refine Zg6 hp hcall he0 ho1 hQ hv1 hr1 hg1 hk1 (fun i b hb => ?_) (by rw [hN]; rfl) lY fuel _ q _ w' (by simpa using hsz) hcn (hia.put hp he0 ho2 ym hnl hcl hD' hx.le hv2 aP) (fun k o hk hn => ?_) (.inl ⟨fun g => ?_,bD.trans hx⟩)
 ·rw [hN,St.Jb,St.Jb] at hb;rw [St.Jb,St.Jb];by_cases h1:sD=i
  ·rw [if_pos h1];by_cases h2:l6=i
   ·exact absurd (h1.trans h2.symm) hne
   ·rw [if_neg h2,if_pos h1] at hb; exact hb
  ·rw [if_neg h1];rw [if_neg h1] at hb;exact hb
 ·have hkl:=(List.getElem?_eq_some_iff.1 hk).1;rcases Nat.lt_or_ge k j with g | g
  ·rcases ht.pure k o g hk with g | g | ⟨_,g⟩
   ·exact .inl g
   ·exact .inr g
   ·exact absurd ((hD' k).2 (.inl (hcl k g))) hn
  ·exact absurd ((hD' k).2 (.inr (by omega))) hn
 ·rcases (hD' m).1 g with g | g
  ·exact hnp g
  ·omega
end
theorem Fu (hm:P.follows .mixedOrders=true) {call:Zz} {K:ZK} (hcall:Z7 P call):M6 P call K:=by
 intro id ops;cases hg:BF P ops (Q7 P ops ops.toList (Zw ops.toList [])) with
 | true =>
  have:Zb8 P call K ops (Q7 P ops ops.toList (Zw ops.toList []))=⟨My (Qq P call K ops (Q7 P ops ops.toList (Zw ops.toList [])) ops.toList (Q7 P ops ops.toList (Zw ops.toList [])) 0 .nil)⟩:=by
   unfold Zb8; rw [hg]; rfl
  rw [this];exact Zfm hm hcall hg
 | false =>
  have:Zb8 P call K ops (Q7 P ops ops.toList (Zw ops.toList []))=ZlF P call K ops (Q7 P ops ops.toList (Zw ops.toList [])) (BH P ops (Q7 P ops ops.toList (Zw ops.toList []))):=by
   unfold Zb8; rw [hg]; rfl
  rw [this];cases ht:BH P ops (Q7 P ops ops.toList (Zw ops.toList [])) with
  | none=>intro e s x e' s' h; cases h
  | some p =>
   intro e s x e' s' h r w a Q hr he hQ;obtain ⟨rfl,vs,st,n,hp,rfl,rfl,rfl,kI⟩:=Zfn ht h;refine wp_region_any hm ?_;have hr':Rel r (st 0) { w with drawn:=w.drawn+1 }:=hr.drawn _;have hst:=Iv.start (r0:=r) (w0:={ w with drawn:=w.drawn+1 }) (a0:=a) hp hr' he.defers;have hQ':∀ q a' w',Ext r (st 0) { w with drawn:=w.drawn+1 } q (st ops.toList.length) w'->Qr K q (JC K ops.toList vs e) a'->Q .normal a' w':=fun q a' w' hx he'=>hQ q a' w' ((Ext.drawn hr _).trans hx) he';refine Zfl hp hcall hr' he hQ' (Zka hm hp kI hcall hr' he hQ') ops.size _ 0 r a _ (by simp) (by rw [Array.toList_replicate,LF]; exact Nat.le_refl _) ?_
   have:Lst (Array.replicate ops.size false)=fun _=>False:=by
    funext j
    unfold Lst;simp [Array.getElem?_replicate];split <;> simp
   rw [this];exact hst
end Ev
namespace Ev
open Go
noncomputable section
def Qc {α : Type} (l:List (Nat × α)):Tr α -> Tr α :=
 @List.rec (Nat × α) (fun _=>Tr α -> Tr α) (fun t=>t) (fun x _ ih t=>ih (t.set x.1 (some x.2))) l
def yt {α : Type} (l:List (Nat × α)):Tr α -> Tr α :=
 @List.rec (Nat × α) (fun _=>Tr α -> Tr α) (fun t=>t) (fun x _ ih t=>ih (t.set x.1 none)) l
def Fq:List Entry->List Entry->Bool
 | [],[]=>true
 | (a,b,n)::l,(c,d,m)::k=>sel (XO a c) (sel (XO b d) (sel (Nat.beq n m) (Fq l k) false) false) false
 | _,_=>false
def Fs:List Nat->List Nat->Bool
 | [],[]=>true
 | a::l,b::k=>sel (Nat.beq a b) (Fs l k) false
 | _,_=>false
def Uk:Option Nat->Option Nat->Bool
 | none,none=>true
 | some a,some b=>Nat.beq a b
 | _,_=>false
def D7:Zd->Zd->Bool
 | .cells cs e o,.cells ds f p=>sel (Nat.beq e f) (sel (Nx o p) (JP cs ds) false) false
 | .map es c,.map fs d=>sel (Nat.beq c d) (Fq es fs) false
 | .mapIter m a l b,.mapIter n c k d=>sel (Uk m n) (sel (Nat.beq a c) (sel (Fs l k) (Nat.beq b d) false) false) false
 | .opq i a,.opq j b=>sel (Nat.beq i j) (Nat.beq a b) false
 | _,_=>false
def Kv (b:Zd) (o:Option Zd):Bool:=match o with
 | some c=>D7 b c
 | none=>false
def Zbv (s:St) (l:List (Nat×Zd)):Bool :=
 @List.rec (Nat×Zd) (fun _=>Bool) true (fun x _ ih=>sel (Kv x.2 (s.get x.1)) ih false) l
structure Ent where
 f:FuncId
 args:List Zb
 pre:List (Nat×Zd)
 n:Nat
 v:Zb
 post:List (Nat×Zd)
 m:Nat
def Ent.S (e:Ent):St:=⟨Qc e.pre .lf,e.n⟩
def Ent.S' (e:Ent):St:=⟨Qc e.post .lf,e.m⟩
def Ent.Ft (e:Ent) (s:St):St:=⟨Qc e.post (yt e.pre s.heap),e.m⟩
def Zkc (e:Ent) (args:List Zb) (s:St) (r:R):R :=
 sel (Nat.beq e.n s.next) (sel (JP e.args args) (sel (Zbv s e.pre) (.ok e.v (e.Ft s)) r) r) r
def sG (args:List Zb) (s:St):List Ent->R
 | [] => .bad
 | e::l=>Zkc e args s (sG args s l)
def Zd9 (T:List Ent):Orc:=⟨fun args s=>sG args s T⟩
def y5 (e:Ent) (r:R):Bool:=match r with
 | .ok v s1=>sel (XO v e.v) (sel (Nat.beq s1.next e.m) (Zbv s1 e.post) false) false
 | .bad=>false
end
variable [Sig]
theorem Ny {α : Type}:∀ (l:List (Nat × α)) (t:Tr α) (i:Nat) (b : α),(Qc l t).get i=some b->(i,b)∈l\/t.get i=some b
 | [],_,_,_,h => .inr h
 | (j,c)::l,t,i,b,h=>by
  rcases Ny l _ i b h with h1 | h1
  ·exact .inl (List.mem_cons_of_mem _ h1)
  ·rw [JN] at h1;by_cases hj:j=i
   ·subst hj; rw [if_pos rfl] at h1; cases h1; exact .inl List.mem_cons_self
   ·rw [if_neg hj] at h1; exact .inr h1
theorem JA {α : Type} {l:List (Nat × α)} {i:Nat} {b : α} (h:(Qc l .lf).get i=some b):(i,b)∈l:=by
 rcases Ny l _ i b h with h1 | h1
 ·exact h1
 ·rw [Tz] at h1; cases h1
theorem LH {α : Type} (i:Nat):∀ (l:List (Nat × α)) (t:Tr α),(Qc l t).get i=((Qc l .lf).get i).or (t.get i)
 | [],t=>by show t.get i=((Tr.lf:Tr α).get i).or (t.get i); rw [Tz]; rfl
 | (j,c)::l,t=>by
  show (Qc l (t.set j (some c))).get i=((Qc l (Tr.lf.set j (some c))).get i).or (t.get i);rw [LH i l,LH i l (Tr.lf.set j (some c)),JN,JN];by_cases hj:j=i
  ·rw [if_pos hj,if_pos hj]; cases (Qc l .lf).get i <;> rfl
  ·rw [if_neg hj,if_neg hj,Tz]; cases (Qc l .lf).get i <;> rfl
theorem BX {α : Type} (i:Nat):∀ (l:List (Nat × α)) (t:Tr α) (b : α),(yt l t).get i=some b->t.get i=some b/\∀ c,(i,c)∉l
 | [],t,b,h=>⟨h,fun _ h=>by cases h⟩
 | (j,c)::l,t,b,h=>by
  obtain ⟨h1,h2⟩:=BX i l _ b h;rw [JN] at h1;by_cases hj:j=i
  ·rw [if_pos hj] at h1; cases h1
  ·rw [if_neg hj] at h1;refine ⟨h1,fun d hd => ?_⟩;rcases List.mem_cons.1 hd with h3 | h3
   ·exact hj (congrArg Prod.fst h3).symm
   ·exact h2 d h3
theorem ZG {a b:Bool} (h:sel a b false=true):a=true/\b=true:=by
 cases a
 ·cases h
 ·exact ⟨rfl,h⟩
theorem GW:∀ (l k:List Entry),Fq l k=true->l=k
 | [],[],_=>rfl
 | [],_::_,h=>by cases h
 | (a,b,n)::l,[],h=>by cases h
 | (a,b,n)::l,(c,d,m)::k,h=>by
  obtain ⟨h1,h⟩:=ZG h;obtain ⟨h2,h⟩:=ZG h;obtain ⟨h3,h⟩:=ZG h;rw [QP a c h1,QP b d h2,Nat.eq_of_beq_eq_true h3,GW l k h]
theorem GX:∀ (l k:List Nat),Fs l k=true->l=k
 | [],[],_=>rfl
 | [],_::_,h=>by cases h
 | a::l,[],h=>by cases h
 | a::l,b::k,h=>by
  obtain ⟨h1,h⟩:=ZG h;rw [Nat.eq_of_beq_eq_true h1,GX l k h]
theorem Zch:∀ (a b:Option Nat),Uk a b=true->a=b
 | none,none,_=>rfl
 | none,some _,h=>by cases h
 | some _,none,h=>by cases h
 | some a,some b,h=>by rw [Nat.eq_of_beq_eq_true h]
theorem T0:∀ (b c:Zd),D7 b c=true->b=c
 | .cells cs e o,.cells ds f p,h=>by
  obtain ⟨h1,h⟩:=ZG h;obtain ⟨h2,h⟩:=ZG h;have ho:o=p:=by cases o <;> cases p <;> first | rfl | cases h2
  rw [Nat.eq_of_beq_eq_true h1,ho,JZ cs ds h]
 | .map es c,.map fs d,h=>by
  obtain ⟨h1,h⟩:=ZG h;rw [Nat.eq_of_beq_eq_true h1,GW es fs h]
 | .mapIter m a l b,.mapIter n c k d,h=>by
  obtain ⟨h1,h⟩:=ZG h;obtain ⟨h2,h⟩:=ZG h;obtain ⟨h3,h⟩:=ZG h;rw [Zch m n h1,Nat.eq_of_beq_eq_true h2,GX l k h3,Nat.eq_of_beq_eq_true h]
 | .opq i a,.opq j b,h=>by
  obtain ⟨h1,h⟩:=ZG h;rw [Nat.eq_of_beq_eq_true h1,Nat.eq_of_beq_eq_true h]
 | .opq _ _,.cells _ _ _,h=>by cases h
 | .opq _ _,.map _ _,h=>by cases h
 | .opq _ _,.mapIter _ _ _ _,h=>by cases h
 | .cells _ _ _,.opq _ _,h=>by cases h
 | .map _ _,.opq _ _,h=>by cases h
 | .mapIter _ _ _ _,.opq _ _,h=>by cases h
 | .cells _ _ _,.map _ _,h=>by cases h
 | .cells _ _ _,.mapIter _ _ _ _,h=>by cases h
 | .map _ _,.cells _ _ _,h=>by cases h
 | .map _ _,.mapIter _ _ _ _,h=>by cases h
 | .mapIter _ _ _ _,.cells _ _ _,h=>by cases h
 | .mapIter _ _ _ _,.map _ _,h=>by cases h
theorem T5 {s:St}:∀ {l:List (Nat×Zd)},Zbv s l=true->∀ i b,(i,b)∈l->s.get i=some b
 | [],_,_,_,h=>by cases h
 | (j,c)::l,h,i,b,hm=>by
  have h:sel (Kv c (s.get j)) (Zbv s l) false=true:=h;obtain ⟨h1,h2⟩:=ZG h;rcases List.mem_cons.1 hm with h3 | h3
  ·cases h3;unfold Kv at h1;split at h1
   ·rename_i d hd;rw [hd,T0 _ _ h1]
   ·cases h1
  ·exact T5 h2 i b h3
variable {P:Program}
def Cf (P:Program) (e:Ent):Prop:=∀ (r:Rho) (w:World) (us:List Value),Rel r e.S w->VRs r e.args us ->
 XZ P e.f ⟨us⟩ w fun u w'=>∃ q,Ext r e.S w q e.S' w'/\VR q e.v u
theorem XZ.mono {f:FuncId} {us:Array Value} {w:World} {R R':Value->World->Prop} (h:XZ P f us w R) (k:∀ u w',R u w'->R' u w'):XZ P f us w R':=by
 rcases h with ⟨u,w',h1,h2⟩ | ⟨h1,h2⟩
 ·exact .inl ⟨u,w',h1,k u w' h2⟩
 ·refine .inr ⟨h1,h2.mono ?_⟩;rintro e w' ⟨u,rfl,h3⟩;exact ⟨u,rfl,k u w' h3⟩
theorem Rel.some {r:Rho} {s s':St} {w:World} (h:Rel r s w) (hs:∀ i b,s'.get i=some b->s.get i=some b) (hn:s'.next=s.next):Rel r s' w :=
 ⟨⟨fun i b x hb hx=>h.block i b x (hs i b hb) hx,fun i hi=>by
   cases e:s'.get i with
   | none=>rfl
   | some b=>have:=hs i b e; rw [h.far i (hn▸hi)] at this; cases this⟩,
  fun i j b c x y hb hc=>h.apart i j b c x y (hs i b hb) (hs j c hc),fun i x hx=>hn▸h.known i x hx,
  fun i x g hx hg=>(h.safe i x g hx hg).step (Nat.le_refl _) (fun _ _ _=>rfl) fun k ⟨i,b,x,hb,hx,hk⟩ => .inl ⟨i,b,x,hs i b hb,hx,hk⟩⟩
theorem Ext.beside {r q:Rho} {s:St} {e:Ent} {w u:World} (hr:Rel r s w) (hs:∀ i b,e.S.get i=some b->s.get i=some b) (hn:e.n=s.next) (h:Ext r e.S w q e.S' u):Ext r s w q (e.Ft s) u:=by
 have back:∀ i b,(e.Ft s).get i=some b->e.S'.get i=some b\/(s.get i=some b/\e.S.get i=none):=fun i b hb=>by
  have hb:(Qc e.post (yt e.pre s.heap)).get i=some b:=hb;rw [LH] at hb;cases hp:(Qc e.post .lf).get i with
  | some c=>rw [hp] at hb; cases hb; exact .inl hp
  | none =>
   rw [hp] at hb;obtain ⟨h1,h2⟩:=BX i _ _ b hb;refine .inr ⟨h1,?_⟩;cases hq:e.S.get i with
   | none=>rfl
   | some c=>exact absurd (JA hq) (h2 c)
 have old:∀ i b x,s.get i=some b->q i=some x->r i=some x:=fun i b x hb hx=>by
  have hi:=hr.below hb;cases fT:r i with
  | none=>have:=h.fresh i fT (by rw [hx]; exact fun h=>by cases h); have h2:e.S.next=e.n:=rfl; omega
  | some y=>rw [h.le i y fT] at hx; exact hx
 have jU:∀ i b x,s.get i=some b->e.S.get i=none->r i=some x->¬ Hit r e.S x.blk:=fun i b x hb he hx ⟨j,c,y,hc,hy,hk⟩=>by
  have:=hr.apart j i c b y x (hs j c hc) hb hy hx hk;subst this;rw [hc] at he; cases he
 have lt:∀ i b x,s.get i=some b->r i=some x->x.blk<w.heap.size:=fun i b x hb hx=>hr.lt ⟨i,b,x,hb,hx,rfl⟩
 have rU:∀ i j b c x y,e.S'.get i=some b->s.get j=some c->e.S.get j=none->q i=some x->q j=some y->x.blk=y.blk->False:=fun i j b c x y hb hc hj hx hy hxy=>by
  have hy':=old j c y hc hy;rcases h.XP x.blk ⟨i,b,x,hb,hx,rfl⟩ with h1 | h1
  ·exact jU j c y hc hj hy' (hxy▸h1)
  ·have:=lt j c y hc hy'; omega
 have hns:s.next<=e.m:=hn▸h.next
 refine ⟨⟨⟨fun i b x hb hx => ?_,fun i hi => ?_⟩,fun i j b c x y hb hc hx hy hxy => ?_,fun i x hx=>h.rel.known i x hx,fun i x g hx hg => ?_⟩,h.le,hns,h.os,h.tape,h.output,h.size,fun k hk hh=>h.frame k hk fun ⟨i,b,x,hb,hx,hk⟩=>hh ⟨i,b,x,hs i b hb,hx,hk⟩,
  fun i hi fT b hb => ?_,fun i hi hg => ?_,fun k ⟨i,b,x,hb,hx,hk⟩ => ?_,fun i fT hq=>hn▸h.fresh i fT hq,h.Wl⟩
 ·rcases back i b hb with h1 | ⟨h1,h2⟩
  ·exact h.rel.block i b x h1 hx
  ·have hx':=old i b x h1 hx;obtain ⟨o,h3,h4⟩:=hr.block i b x h1 hx';exact ⟨o,by rw [h.frame x.blk (lt i b x h1 hx') (jU i b x h1 h2 hx')]; exact h3,h4.mono h.le⟩
 ·cases hb:(e.Ft s).get i with
  | none=>rfl
  | some b =>
   have hi:e.m<=i:=hi;rcases back i b hb with h1 | ⟨h1,h2⟩
   ·rw [h.rel.far i hi] at h1; cases h1
   ·rw [hr.far i (by omega)] at h1; cases h1
 ·rcases back i b hb with h1 | ⟨h1,h2⟩ <;> rcases back j c hc with h3 | ⟨h3,h4⟩
  ·exact h.rel.apart i j b c x y h1 h3 hx hy hxy
  ·exact (rU i j b c x y h1 h3 h4 hx hy hxy).elim
  ·exact (rU j i c b y x h3 h1 h2 hy hx hxy.symm).elim
  ·exact hr.apart i j b c x y h1 h3 (old i b x h1 hx) (old j c y h3 hy) hxy
 ·obtain ⟨g1,g2⟩:=h.rel.safe i x g hx hg;refine ⟨g1,fun k hk hl=>⟨(g2 k hk hl).1,fun ⟨j,b,y,hb,hy,hjk⟩ => ?_⟩⟩;rcases back j b hb with h1 | ⟨h1,h2⟩
  ·exact (g2 k hk hl).2 ⟨j,b,y,h1,hy,hjk⟩
  ·have hy':=old j b y h1 hy;rcases h.Wl k ⟨i,x,g,hx,hg,hk,hl⟩ with ⟨i',x',g',e1,e2,e3,e4⟩ | h3
   ·exact ((hr.safe i' x' g' e1 e2).2 k e3 e4).2 ⟨j,b,y,h1,hy',hjk⟩
   ·have:=lt j b y h1 hy';omega
 ·rcases back i b hb with h1 | ⟨h1,h2⟩
  ·exact hs i b (h.still i (by have h2:e.S.next=e.n:=rfl; omega) fT b h1)
  ·exact h1
 ·cases hb:(e.Ft s).get i with
  | none=>rfl
  | some b =>
   rcases back i b hb with h1 | ⟨h1,h2⟩
   ·have hd:=h.dead i (by have h2:e.S.next=e.n:=rfl; omega) (by
     cases hc:e.S.get i with
     | none=>rfl
     | some c=>rw [hs i c hc] at hg; cases hg)
    rw [hd] at h1; cases h1
   ·rw [hg] at h1; cases h1
 ·rcases back i b hb with h1 | ⟨h1,h2⟩
  ·rcases h.XP k ⟨i,b,x,h1,hx,hk⟩ with ⟨j,c,y,hc,hy,hk⟩ | h3
   ·exact .inl ⟨j,c,y,hs j c hc,hy,hk⟩
   ·exact .inr h3
  ·exact .inl ⟨i,b,x,h1,old i b x h1 hx,hk⟩
def Qe (P:Program) (f:FuncId) (g:Orc):Prop:=∀ (args:List Zb) (s:St) (v:Zb) (s':St),g.run args s = .ok v s'->∀ (r:Rho) (w:World) (us:List Value),Rel r s w->VRs r args us ->
  XZ P f ⟨us⟩ w fun u w'=>∃ q,Ext r s w q s' w'/\VR q v u
theorem NM {f:FuncId}:∀ {T:List Ent},(∀ e∈T,e.f=f/\Cf P e)->Qe P f (Zd9 T)
 | [],_=>fun args s v s' h=>by cases h
 | e::T,hT=>fun args s v s' h r w us hr hv=>by
  have h:Zkc e args s (sG args s T) = .ok v s':=h
  have rest:sG args s T = .ok v s'->XZ P f ⟨us⟩ w fun u w'=>∃ q,Ext r s w q s' w'/\VR q v u:=fun h =>
   NM (T:=T) (fun e he=>hT e (List.mem_cons_of_mem _ he)) args s v s' h r w us hr hv
  unfold Zkc at h;rcases Ze h with ⟨h1,h⟩ | ⟨_,h⟩
  ·rcases Ze h with ⟨h2,h⟩ | ⟨_,h⟩
   ·rcases Ze h with ⟨h3,h⟩ | ⟨_,h⟩
    ·cases h;obtain ⟨rfl,he⟩:=hT e List.mem_cons_self;have hn:e.n=s.next:=Nat.eq_of_beq_eq_true h1;have hs:∀ i b,e.S.get i=some b->s.get i=some b:=fun i b hb=>T5 h3 i b (JA hb);have ha:=JZ _ _ h2;subst ha;refine (he r w us (hr.some hs hn) hv).mono fun u w' ⟨q,h4,h5⟩=>⟨q,h4.beside hr hs hn,h5⟩
    ·exact rest h
   ·exact rest h
  ·exact rest h
end Ev
namespace Ev
open Go
noncomputable section
def vI (n:Nat):Zb := .int .i64 (.ofNat n)
def vJ (n:Nat):Zb := .int .i64 (.negSucc n)
def vP (i o:Nat):Zb := .ptr i o
def vL (i o n:Nat):Zb := .slice i o n none
def vM (i:Nat):Zb := .map i
def vT:Zb := .bool true
def vF:Zb := .bool false
def byN (k:Nat):Nat->List UInt8:=@Nat.rec (fun _=>Nat->List UInt8) (fun _=>[]) (fun _ ih n=>UInt8.ofNat (Nat.mod n 256)::ih (Nat.div n 256)) k
def ceN (k:Nat):Nat->List Zb:=@Nat.rec (fun _=>Nat->List Zb) (fun _=>[]) (fun _ ih n => .int .u8 (.ofNat (Nat.mod n 256))::ih (Nat.div n 256)) k
def vX (k n:Nat):Zb := .str (byN k n)
def bC (cs:List Zb) (e:Nat):Zd := .cells cs e false
def bO (cs:List Zb) (e:Nat):Zd := .cells cs e true
def bZ (k n:Nat):Zd := .cells (ceN k n) 1 true
def bM (es:List Entry) (c:Nat):Zd := .map es c
end
end Ev
namespace Ev
open Go
noncomputable section
def bindM (k:Env->St->List Res):List Res->List Res
 | []=>[]
 | y::l=>(match y with | .ok .normal e s=>k e s | y=>[y])++bindM k l
def R4 (a b:Env->St->List Res) (e:Env) (s:St) (v:V):List Res:=match v with
 | .ok (.bool true)=>a e s
 | .ok (.bool false)=>b e s
 | _=>[.bad]
def Pr (t u:Tmp) (e:Env) (s:St):List Res:=[.ok .normal ((e.set u none).set t (some (.bool true))) ⟨s.heap,s.next+1⟩,.ok .normal ((e.set u none).set t (some (.bool false))) ⟨s.heap,s.next+1⟩]
def Yj (ex:Code->Env->St->Res) (Yk:Nat) (t u:Tmp):Code->Env->St->List Res
 | .seq a b=>fun e s=>bindM (Yj ex Yk t u b) (Yj ex Yk t u a e s)
 | .cond x a b=>fun e s=>R4 (Yj ex Yk t u a) (Yj ex Yk t u b) e s (Zl [] e (Jz 0 .nil x))
 | .region id ops d=>fun e s=>sel (Nat.beq id Yk) (Pr t u e s) [ex (.region id ops d) e s]
 | c=>fun e s=>[ex c e s]
def Jo (s:St):List Nat->List (Nat×Zd)
 | []=>[]
 | i::l=>match s.get i with
  | some b=>(i,b)::Jo s l
  | none=>Jo s l
def Dv (v:Zb) (m:Nat):List R->Bool
 | []=>true
 | .ok u s::l=>sel (XO u v) (sel (Nat.beq s.next m) (Dv v m l) false) false
 | .bad::_=>false
def Pa (b:Zd) (i:Nat):List R->Bool
 | []=>true
 | .ok _ s::l=>sel (Kv b (s.get i)) (Pa b i l) false
 | .bad::_=>false
def GY (rs:List R):List (Nat×Zd)->List (Nat×Zd)
 | []=>[]
 | (i,b)::l=>sel (Pa b i rs) ((i,b)::GY rs l) (GY rs l)
def IQ (n:Nat):Nat->List Nat
 | 0=>[]
 | k+1=>(n+k)::IQ n k
def ZlJ (f:FuncId) (args:List Zb) (s:St) (ids:List Nat) (v:Zb) (s1:St) (rs:List R):Ent :=
 ⟨f,args,Jo s ids,s.next,v,GY rs (Jo s1 (ids++IQ s.next (s1.next-s.next))),s1.next⟩
def Zkd (f:FuncId) (args:List Zb) (s:St) (ids:List Nat):List R->R
 | .ok v s1::rs=>sel (Dv v s1.next rs) (.ok v ((ZlJ f args s ids v s1 rs).Ft s)) .bad
 | _ => .bad
def LI (l:List RV):List Res->List R
 | []=>[]
 | y::ys=>T4 l y::LI l ys
structure Two where
 f:FuncId
 Yk:Nat
 t:Tmp
 u:Tmp
 ids:List Zb->St->List Nat
def exT (P:Program) (K:ZK) (c:Code):Env->St->Res:=GK P (fun _ _ _ => .bad) K (fun _=>none) 1 1 (cc P (fun _ _ _ => .bad) K (fun _=>none) c)
def IU (P:Program) (T:Two) (Zf:T3) (fn:Func) (args:List Zb) (s:St) (b:Option Code):R:=match b with
 | some b=>Zkd T.f args s (T.ids args s) (LI (XQ P fn.results.toList) (Yj (exT P ⟨fn.ntmps,Zf⟩) T.Yk T.t T.u b (Wm ⟨fn.ntmps,Zf⟩ 0 .lf args) ⟨Qc (Jo s (T.ids args s)) .lf,s.next⟩))
 | none => .bad
def ZfM (P:Program) (T:Two) (Zf:T3) (fn:Func):Orc:=⟨fun args s=>IU P T Zf fn args s fn.body⟩
end
variable [Sig]
variable {P:Program}
def Zv (P:Program) (K:ZK) (c:Code) (F:Env->St->List Res):Prop :=
 ∀ (e:Env) (s:St),(∀ y∈F e s,y ≠ .bad)->∀ (r:Rho) (w:World) (a:Act) (Q:Exit->Act->World->Prop),Rel r s w->Qr K r e a ->
  (∀ x e' s',Res.ok x e' s'∈F e s->∀ q a' w',Ext r s w q s' w'->Qr K q e' a'->Q (Ui x) a' w')->c.wp P Q a w
theorem Zv.of {K:ZK} {c:Code} {f:Env->St->Res} (h:QJ P K c f):Zv P K c fun e s=>[f e s]:=by
 intro e s hb r w a Q hr he hQ;cases hy:f e s with
 | bad=>exact absurd hy (hb _ (List.mem_singleton.2 rfl))
 | ok x e' s'=>exact h e s x e' s' hy r w a Q hr he fun q a' w' hx he'=>hQ x e' s' (by show _∈[f e s]; rw [hy]; exact List.mem_singleton.2 rfl) q a' w' hx he'
theorem Xc {k:Env->St->List Res} {e:Env} {s:St}:∀ {l:List Res},Res.ok .normal e s∈l->∀ z∈k e s,z∈bindM k l
 | y::l,h,z,hz=>by
  rcases List.mem_cons.1 h with h | h
  ·subst h; exact List.mem_append_left _ hz
  ·exact List.mem_append_right _ (Xc h z hz)
theorem QO {k:Env->St->List Res} {y:Res} (hy:∀ e s,y ≠ .ok .normal e s):∀ {l:List Res},y∈l->y∈bindM k l
 | z::l,h=>by
  rcases List.mem_cons.1 h with h | h
  ·subst h;refine List.mem_append_left _ ?_;split
   ·rename_i e s; exact absurd rfl (hy e s)
   ·exact List.mem_singleton.2 rfl
  ·exact List.mem_append_right _ (QO hy h)
theorem Zv.seq {K:ZK} {c d:Code} {F G:Env->St->List Res} (hf:Zv P K c F) (hg:Zv P K d G):Zv P K (.seq c d) fun e s=>bindM G (F e s):=by
 intro e s hb r w a Q hr he hQ;refine wp_seq (hf e s (fun y hy hbad => ?_) r w a _ hr he fun x e1 s1 hm q a1 w1 hx he1 => ?_)
 ·subst hbad;exact hb .bad (QO (fun _ _ h=>by cases h) hy) rfl
 ·cases x with
  | normal=>exact hg e1 s1 (fun y hy=>hb y (Xc hm y hy)) q w1 a1 Q hx.rel he1 fun x e' s' hm' q' a' w' hx' he'=>hQ x e' s' (Xc hm _ hm') q' a' w' (hx.trans hx') he'
  | exit i=>exact hQ _ e1 s1 (QO (fun _ _ h=>by cases h) hm) q a1 w1 hx he1
  | goto i=>exact hQ _ e1 s1 (QO (fun _ _ h=>by cases h) hm) q a1 w1 hx he1
  | ret=>exact hQ _ e1 s1 (QO (fun _ _ h=>by cases h) hm) q a1 w1 hx he1
theorem Zv.cond {K:ZK} {x:Operand} {c d:Code} {F G:Env->St->List Res} (hf:Zv P K c F) (hg:Zv P K d G):Zv P K (.cond x c d) fun e s=>R4 F G e s (Zl [] e (Jz 0 .nil x)):=by
 intro e s hb r w a Q hr he hQ;cases hv:Zl [] e (Jz 0 .nil x) with
 | bad=>exact absurd rfl (hb .bad (by show _∈R4 F G e s _; rw [hv]; exact List.mem_singleton.2 rfl))
 | ok v =>
  have hc:=(Inv.start hr he).cx (.move x) x (by simp [Op.operands]) v hv;have hb':∀ y∈R4 F G e s (.ok v),y ≠ .bad:=fun y hy=>hb y (by show _∈R4 F G e s _; rw [hv]; exact hy);have hQ':∀ x e' s',Res.ok x e' s'∈R4 F G e s (.ok v)->∀ q a' w',Ext r s w q s' w'->Qr K q e' a'->Q (Ui x) a' w':=fun x e' s' hm=>hQ x e' s' (by show _∈R4 F G e s _; rw [hv]; exact hm);unfold R4 at hb' hQ';split at hb'
  ·rename_i e1;cases e1
   generalize hg2:a.eval x=u at hc
   cases hc;exact wp_cond_true hg2 (hf e s hb' r w a Q hr he hQ')
  ·rename_i e1;cases e1
   generalize hg2:a.eval x=u at hc
   cases hc;exact wp_cond_false hg2 (hg e s hb' r w a Q hr he hQ')
  ·exact absurd rfl (hb' .bad (List.mem_singleton.2 rfl))
theorem Yl {K:ZK} {ex:Code->Env->St->Res} {Yk:Nat} {t u:Tmp} (hex:∀ c,QJ P K c (ex c)):∀ c,Qv (fun id ops d=>id=Yk->Zv P K (.region id ops d) (Pr t u)) c->Zv P K c (Yj ex Yk t u c)
 | .seq a b,h=>Zv.seq (Yl hex a h.1) (Yl hex b h.2)
 | .cond x a b,h=>Zv.cond (Yl hex a h.1) (Yl hex b h.2)
 | .region id ops d,h=>by
  have e1:Yj ex Yk t u (.region id ops d)=fun e s=>sel (Nat.beq id Yk) (Pr t u e s) [ex (.region id ops d) e s]:=by unfold Yj; rfl
  rw [e1];cases hc:Nat.beq id Yk
  ·exact Zv.of (hex _)
  ·exact h (Nat.eq_of_beq_eq_true hc)
 | .skip,_=>Zv.of (hex _)
 | .label _,_=>Zv.of (hex _)
 | .rangeFunc _ _ _ _,_=>Zv.of (hex _)
 | .exit _,_=>Zv.of (hex _)
 | .goto _,_=>Zv.of (hex _)
 | .ret,_=>Zv.of (hex _)
 | .refuse _,_=>Zv.of (hex _)
 | .block _ _,_=>Zv.of (hex _)
 | .loop _,_=>Zv.of (hex _)
 | .scope _,_=>Zv.of (hex _)
theorem Kx {s:St}:∀ {l:List Nat} {i:Nat} {b:Zd},(i,b)∈Jo s l->s.get i=some b
 | j::l,i,b,h=>by
  unfold Jo at h;split at h
  ·rename_i c hc;rcases List.mem_cons.1 h with h | h
   ·cases h; exact hc
   ·exact Kx h
  ·exact Kx h
theorem R5 {rs:List R}:∀ {l:List (Nat×Zd)} {i:Nat} {b:Zd},(i,b)∈GY rs l->(i,b)∈l/\Pa b i rs=true
 | (j,c)::l,i,b,h=>by
  have h:(i,b)∈sel (Pa c j rs) ((j,c)::GY rs l) (GY rs l):=h;cases hh:Pa c j rs
  ·rw [hh] at h;obtain ⟨h1,h2⟩:=R5 (l:=l) h;exact ⟨List.mem_cons_of_mem _ h1,h2⟩
  ·rw [hh] at h;rcases List.mem_cons.1 h with h | h
   ·cases h; exact ⟨List.mem_cons_self,hh⟩
   ·obtain ⟨h1,h2⟩:=R5 (l:=l) h;exact ⟨List.mem_cons_of_mem _ h1,h2⟩
theorem GZ {b:Zd} {i:Nat}:∀ {rs:List R},Pa b i rs=true->∀ v s,R.ok v s∈rs->s.get i=some b
 | .ok u s::l,h,v,t,hm=>by
  obtain ⟨h1,h2⟩:=ZG h;rcases List.mem_cons.1 hm with hm | hm
  ·cases hm;unfold Kv at h1;split at h1
   ·rename_i c hc; rw [hc,T0 _ _ h1]
   ·cases h1
  ·exact GZ h2 v t hm
 | .bad::l,h,_,_,_=>by cases h
theorem LJ {v:Zb} {m:Nat}:∀ {rs:List R},Dv v m rs=true->∀ y∈rs,∃ s,y = .ok v s/\s.next=m
 | .ok u s::l,h,y,hm=>by
  obtain ⟨h1,h⟩:=ZG h;obtain ⟨h2,h3⟩:=ZG h;rcases List.mem_cons.1 hm with hm | hm
  ·subst hm; exact ⟨s,by rw [QP _ _ h1],Nat.eq_of_beq_eq_true h2⟩
  ·exact LJ h3 y hm
 | .bad::l,h,_,_=>by cases h
theorem To {l:List RV}:∀ {ys:List Res} {y:Res},y∈ys->T4 l y∈LI l ys
 | z::ys,y,h=>by
  rcases List.mem_cons.1 h with h | h
  ·subst h; exact List.mem_cons_self
  ·exact List.mem_cons_of_mem _ (To h)
theorem OP (hm:P.follows .mixedOrders=true) {T:Two} {Zf:T3} {fn:Func} {b:Code} (hfn:P.funcs[T.f]? = some fn) (hb:fn.body=some b) (hcf:∀ args w,(callFunc T.f args).run P w = .ok (.enter T.f args) w)
  (hc:Qv (fun id ops d=>id=T.Yk->Zv P ⟨fn.ntmps,Zf⟩ (.region id ops d) (Pr T.t T.u)) b):Qe P T.f (ZfM P T Zf fn):=by
 intro args s v s' h r w us hr hv;have h:IU P T Zf fn args s fn.body = .ok v s':=h;rw [hb] at h;have h:Zkd T.f args s (T.ids args s) (LI (XQ P fn.results.toList) (Yj (exT P ⟨fn.ntmps,Zf⟩) T.Yk T.t T.u b (Wm ⟨fn.ntmps,Zf⟩ 0 .lf args) ⟨Qc (Jo s (T.ids args s)) .lf,s.next⟩)) = .ok v s':=h;have fA:Z7 P (fun _ _ _=>R.bad):=fun f args s v s' h=>by cases h
 have hM:Zv P ⟨fn.ntmps,Zf⟩ b (Yj (exT P ⟨fn.ntmps,Zf⟩) T.Yk T.t T.u b):=Yl (fun c=>Md fA (Fu hm fA) 1 c (Qv.all (fun _ _ _ g hg=>by cases hg) c)) b hc
 generalize Yj (exT P ⟨fn.ntmps,Zf⟩) T.Yk T.t T.u b=F at h hM
 generalize hids:T.ids args s=ids at h
 generalize hy:F (Wm ⟨fn.ntmps,Zf⟩ 0 .lf args) ⟨Qc (Jo s ids) .lf,s.next⟩=ys at h
 have hys:∀ y∈ys,∃ s1,T4 (XQ P fn.results.toList) y = .ok v s1/\∃ E:Ent,E.f=T.f/\E.args=args/\E.pre=Jo s ids/\E.n=s.next/\E.v=v/\E.m=s1.next/\s'=E.Ft s/\∀ i b,(i,b)∈E.post->s1.get i=some b:=by
  intro y hmem;have hd:=To (l:=XQ P fn.results.toList) hmem;unfold Zkd at h;split at h
  ·rename_i v1 s1 rs hrs;rcases Ze h with ⟨hs,h⟩ | ⟨_,h⟩
   ·cases h;rw [hrs] at hd;rcases List.mem_cons.1 hd with hd | hd
    ·exact ⟨s1,hd,_,rfl,rfl,rfl,rfl,rfl,rfl,rfl,fun i b hi=>Kx (R5 hi).1⟩
    ·obtain ⟨s2,h1,h2⟩:=LJ hs _ hd;refine ⟨s2,h1,_,rfl,rfl,rfl,rfl,rfl,h2.symm,rfl,fun i b hi => ?_⟩;rw [h1] at hd;exact GZ (R5 hi).2 v s2 hd
   ·cases h
  ·cases h
 have hs:∀ i b,(⟨Qc (Jo s ids) .lf,s.next⟩:St).get i=some b->s.get i=some b:=fun i b hb=>Kx (JA hb);refine .inr ⟨hcf _ _,?_⟩;refine calls_of_wp hfn hb (hM _ ⟨Qc (Jo s ids) .lf,s.next⟩ (fun y hmem hbad => ?_) r w _ _ (hr.some hs rfl) (M7 hv) fun x e' s1 hmem q a' w' hx he => ?_)
 ·rw [hy] at hmem;obtain ⟨s1,h1,_⟩:=hys y hmem;subst hbad;cases h1
 ·rw [hy] at hmem;obtain ⟨s2,h1,E,g1,g2,g3,g4,g5,g6,g7,g8⟩:=hys _ hmem;obtain ⟨x',e1,h2,h3,h4⟩:=M8 h1;cases h2;obtain ⟨u,h5,h6⟩:=Tp hx.rel he h4;have IV:E.S=⟨Qc (Jo s ids) .lf,s.next⟩:=by unfold Ent.S; rw [g3,g4]
  have hx':Ext r E.S w q E.S' w':=by
   rw [IV];exact hx.forget (fun i b hb=>g8 i b (JA hb)) g6
  have hx2:=hx'.beside hr (by rw [IV]; exact hs) g4;rw [<- g7] at hx2;rcases h3 with rfl | rfl
  ·exact ⟨he.defers,u,h5,u,rfl,q,hx2,h6⟩
  ·exact ⟨he.defers,u,h5,u,rfl,q,hx2,h6⟩
end Ev
namespace Ev
open Go
noncomputable section
def EU (sep:List UInt8):List Zb->Option (List UInt8)
 | []=>some []
 | v::l=>match v with
  | .str s=>match l with
   | []=>some s
   | l=>match EU sep l with
    | some r=>some (s++(sep++r))
    | none=>none
  | _=>none
def Zky (n:Nat) (o:Option (List UInt8)):Option (List UInt8):=match o with
 | some l=>sel (Nat.ble l.length 65536) (sel (Nat.ble n 65536) (some l) none) none
 | none=>none
def y9 (n:Nat) (sep:List UInt8) (o:Option (List Zb)):Option (List UInt8):=match o with
 | some l=>Zky n (EU sep l)
 | none=>none
def Zhs (s:St) (off n:Nat) (sep:List UInt8) (c:Cs):R:=match c with
 | .mk cs _ _=>Na s (y9 n sep (sub cs off n))
 | .bad => .bad
def tu (args:List Zb) (s:St):R:=match args with
 | [.Za,.str _] => .ok (.str []) s
 | [.slice id off n _,.str sep]=>Zhs s off n sep (s.ZT id)
 | _ => .bad
def Zc4:Orc:=⟨tu⟩
def ZlL:Zb->List Nat
 | .slice i _ _ _=>[i]
 | _=>[]
def Zke (off n:Nat) (c:Cs):List Nat:=match c with
 | .mk cs _ _=>(match KC (off+n*5+3) cs with
  | .ok v=>ZlL v
  | .bad=>[])
 | .bad=>[]
def ZlM (s:St):Zb->List Nat
 | .slice id off (n+1) _=>id::Zke off n (s.ZT id)
 | _=>[]
def ZlN (s:St) (c:Cs):List Nat:=match c with
 | .mk [_,op,dn] _ _=>ZlL dn++ZlM s op
 | _=>[]
def Ut (args:List Zb) (s:St):List Nat:=match args with
 | [.ptr r _,_]=>r::ZlN s (s.ZT r)
 | _=>[]
def EM (s:St) (b c:Nat) (k:Zb):R:=match k with
 | .int .i64 n=>sel (Nat.blt b c) (sel (ieq (Y9 .i64 n) n) (.ok (.slice s.next 0 1 none) (s.new (.cells [k] 1 true))) .bad) .bad
 | _ => .bad
def EL (s:St) (m:Mp):R:=match m with
 | .mk [] _ => .ok .Za s
 | .mk [(k,_,b)] c=>EM s b c k
 | _ => .bad
def Zhl (s:St) (c:Cs):R:=match c with
 | .mk [.map m] _ _=>EL s (s.Xa m)
 | _ => .bad
def sZ (f:FuncId) (args:List Zb) (s:St):R:=match args with
 | [.func g [] [.ptr c 0]]=>sel (Nat.beq g f) (Zhl s (s.ZT c)) .bad
 | _ => .bad
def EK (f:FuncId):Orc:=⟨sZ f⟩
def Wv:List Entry->Option (List (List UInt8))
 | []=>some []
 | (k,_,_)::l=>match k,Wv l with
  | .str b,some r=>some (b::r)
  | _,_=>none
def TU (x:List UInt8):List (List UInt8)->List (List UInt8)
 | []=>[x]
 | y::l=>sel (JL y x) (y::TU x l) (x::y::l)
def Hj:List (List UInt8)->List (List UInt8)
 | []=>[]
 | x::l=>TU x (Hj l)
def ZcR:List (List UInt8)->List Zb
 | []=>[]
 | b::l => .str b::ZcR l
def ZcM:List (List UInt8)->Bool
 | []=>true
 | b::l=>sel (Nat.ble b.length 65536) (ZcM l) false
def Sd (s:St) (o:Option (List (List UInt8))):R:=match o with
 | some [] => .ok .Za s
 | some l=>sel (Nat.ble l.length 65536) (.ok (.slice s.next 0 l.length none) (s.new (.cells (ZcR (Hj l)) 1 true))) .bad
 | none => .bad
def Vy:List Entry->List Nat
 | []=>[]
 | (_,_,b)::l=>b::Vy l
def MX (n:Nat):List Nat->Bool
 | []=>true
 | i::l=>sel (Nat.blt i n) (MX n l) false
def ndN:List Nat->Bool
 | []=>true
 | i::l=>sel (WT i l) false (ndN l)
def Hl (b:List UInt8):List (List UInt8)->Bool
 | []=>false
 | c::l=>sel (QG b c) true (Hl b l)
def ndB:List (List UInt8)->Bool
 | []=>true
 | b::l=>sel (Hl b l) false (ndB l)
def MZ (es:List Entry) (c:Nat) (ks:Option (List (List UInt8))):Bool:=match ks with
 | some ks=>sel (MX c (Vy es)) (sel (ndN (Vy es)) (sel (ndB ks) (ZcM ks) false) false) false
 | none=>false
def EI (s:St) (m:Mp):R:=match m with
 | .mk es c=>sel (MZ es c (Wv es)) (Sd s (Wv es)) .bad
 | .bad => .bad
def EH (s:St) (c:Cs):R:=match c with
 | .mk [.map m] _ _=>EI s (s.Xa m)
 | _ => .bad
def Ff (f:FuncId) (args:List Zb) (s:St):R:=match args with
 | [.func g [] [.ptr c 0]]=>sel (Nat.beq g f) (EH s (s.ZT c)) .bad
 | _ => .bad
def Mc (f:FuncId):Orc:=⟨Ff f⟩
def BY (t:TypeId) (s:St) (m:Mp):R:=match m with
 | .mk es c => .ok (.iface t (.map s.next)) (s.new (.map es c))
 | .bad => .bad
def EC (args:List Zb) (s:St):R:=match args with
 | [.iface t (.map m)]=>BY t s (s.Xa m)
 | _ => .bad
def Fv:Orc:=⟨EC⟩
def yu (P:Program) (s:St) (e:Option (Array Value->Sem Value)) (vs:Option (List Value)):R:=match e,vs with
 | some e,some vs=>V.ret s (C4 P (e vs.toArray))
 | _,_ => .bad
def VH (P:Program) (fn:Func):Orc:=⟨fun args s=>yu P s (Extern.find fn) (toVs args)⟩
def inU (c a b:Int):Bool:=sel (ile (.ofNat 0) (WD c a b)) (ile (P7 c a b) (.ofNat 18446744073709551615)) false
def BZ (c a b:Int) (h:Nat):V := .ok (.tuple [mkS .u64 c a b,.int .u64 (.ofNat h)])
def Zg8 (c a b:Int):V:=sel (inU c a b) (BZ c a b 0) (sel (inU (c - .ofNat 18446744073709551616) a b) (BZ (c - .ofNat 18446744073709551616) a b 1) .bad)
def Zg9 (c a b:Int):V:=sel (inU c a b) (BZ c a b 0) (sel (inU (c + .ofNat 18446744073709551616) a b) (BZ (c + .ofNat 18446744073709551616) a b 1) .bad)
def ED (k:IntKind) (c a b d e f:Int) (v:V):V:=sel (keq k .u64) (sel (inU c a b) (sel (inU d e f) v .bad) .bad) .bad
def Zmk (z:Nat) (p:Sy):V:=match p with
 | .mk k c a b d e f=>sel (Nat.ble z 1) (ED k c a b d e f (Zg8 (c+d + .ofNat z) (a+e) (b+f))) .bad
 | .none => .bad
def Zml (z:Nat) (p:Sy):V:=match p with
 | .mk k c a b d e f=>sel (Nat.ble z 1) (ED k c a b d e f (Zg9 (c-d - .ofNat z) (a-e) (b-f))) .bad
 | .none => .bad
def IW (p:Sy):Bool:=match p with
 | .mk _ _ _ _ _ _ _=>true
 | .none=>false
def ZaX (c a b:Int):V:=sel (inU c a b) (.ok (.tuple [.int .u64 (.ofNat 0),mkS .u64 c a b])) .bad
def Zkf (c a b d e f:Int):V:=sel (sel (ieq a (.ofNat 0)) (ieq b (.ofNat 0)) false) (ZaX (c*d) (c*e) (c*f))
 (sel (sel (ieq e (.ofNat 0)) (ieq f (.ofNat 0)) false) (ZaX (d*c) (d*a) (d*b)) .bad)
def ZlP (p:Sy):V:=match p with
 | .mk k c a b d e f=>ED k c a b d e f (Zkf c a b d e f)
 | .none => .bad
def mulN (a b:Nat):V:=sel (Nat.blt a 18446744073709551616) (sel (Nat.blt b 18446744073709551616)
 (.ok (.tuple [.int .u64 (.ofNat (Nat.div (a*b) 18446744073709551616)),.int .u64 (.ofNat (Nat.mod (a*b) 18446744073709551616))])) .bad) .bad
def ZlQ (x y:Zb):V:=match x,y with
 | .int .u64 (.ofNat a),.int .u64 (.ofNat b)=>mulN a b
 | x,y=>ZlP (Ki x y)
def mulR (args:List Zb) (s:St):R:=match args with
 | [x,y]=>V.ret s (ZlQ x y)
 | _ => .bad
def ZfN:Orc:=⟨mulR⟩
def VG (sub:Bool) (g:Orc):Orc:=⟨fun args s=>match args with
 | [x,y,.int .u64 (.ofNat z)]=>sel (IW (Ki x y)) (V.ret s (sel sub (Zml z (Ki x y)) (Zmk z (Ki x y)))) (g.run args s)
 | args=>g.run args s⟩
structure Names where
 join:FuncId
 add:FuncId
 Zdb:FuncId
 Zdc:FuncId
 Zdd:FuncId
 Zde:FuncId
 clone:FuncId
 Ci:FuncId
 Cj:FuncId
 Ck:FuncId
 Zdf:FuncId
def Zmm (P:Program) (N:Names) (Zf:FuncId->T3) (fn:FuncId->Func):List (Nat×Orc) :=
 [(N.join,Zc4),(N.add,ZfM P ⟨N.add,3,13,12,Ut⟩ (Zf N.add) (fn N.add)),(N.Zdb,Mc N.Zdc),(N.Zdd,EK N.Zde),(N.clone,Fv),(N.Ci,VG false (VH P (fn N.Ci))),(N.Cj,VG true (VH P (fn N.Cj))),(N.Ck,VH P (fn N.Ck)),(N.Zdf,ZfN)]
end
end Ev
namespace Ev
open Go Go.Proofs
section
noncomputable abbrev nN {α : Type} (x : α) (a b:Tr α):Tr α := .nd (some x) a b
noncomputable def fnT:Tr Func:=(nN Tryz.f0 (nN Tryz.f1 (nN Tryz.f3 (nN Tryz.f7 (nN Tryz.f15 (nN Tryz.f31 (nN Tryz.f63 (nN Tryz.f127 (nN Tryz.f255 (nN Tryz.f511 .lf .lf) .lf) (nN Tryz.f383 (nN Tryz.f639 .lf .lf) .lf)) (nN Tryz.f191 (nN Tryz.f319 (nN Tryz.f575 .lf .lf) .lf) (nN Tryz.f447 .lf .lf))) (nN Tryz.f95 (nN Tryz.f159 (nN Tryz.f287 (nN Tryz.f543 .lf .lf) .lf) (nN Tryz.f415 (nN Tryz.f671 .lf .lf) .lf)) (nN Tryz.f223 (nN Tryz.f351 (nN Tryz.f607 .lf .lf) .lf) (nN Tryz.f479 .lf .lf)))) (nN Tryz.f47 (nN Tryz.f79 (nN Tryz.f143 (nN Tryz.f271 (nN Tryz.f527 .lf .lf) .lf) (nN Tryz.f399 (nN Tryz.f655 .lf .lf) .lf)) (nN Tryz.f207 (nN Tryz.f335 (nN Tryz.f591 .lf .lf) .lf) (nN Tryz.f463 .lf .lf))) (nN Tryz.f111 (nN Tryz.f175 (nN Tryz.f303 (nN Tryz.f559 .lf .lf) .lf) (nN Tryz.f431 .lf .lf)) (nN Tryz.f239 (nN Tryz.f367 (nN Tryz.f623 .lf .lf) .lf) (nN Tryz.f495 .lf .lf))))) (nN Tryz.f23 (nN Tryz.f39 (nN Tryz.f71 (nN Tryz.f135 (nN Tryz.f263 (nN Tryz.f519 .lf .lf) .lf) (nN Tryz.f391 (nN Tryz.f647 .lf .lf) .lf)) (nN Tryz.f199 (nN Tryz.f327 (nN Tryz.f583 .lf .lf) .lf) (nN Tryz.f455 .lf .lf))) (nN Tryz.f103 (nN Tryz.f167 (nN Tryz.f295 (nN Tryz.f551 .lf .lf) .lf) (nN Tryz.f423 .lf .lf)) (nN Tryz.f231 (nN Tryz.f359 (nN Tryz.f615 .lf .lf) .lf) (nN Tryz.f487 .lf .lf)))) (nN Tryz.f55 (nN Tryz.f87 (nN Tryz.f151 (nN Tryz.f279 (nN Tryz.f535 .lf .lf) .lf) (nN Tryz.f407 (nN Tryz.f663 .lf .lf) .lf)) (nN Tryz.f215 (nN Tryz.f343 (nN Tryz.f599 .lf .lf) .lf) (nN Tryz.f471 .lf .lf))) (nN Tryz.f119 (nN Tryz.f183 (nN Tryz.f311 (nN Tryz.f567 .lf .lf) .lf) (nN Tryz.f439 .lf .lf)) (nN Tryz.f247 (nN Tryz.f375 (nN Tryz.f631 .lf .lf) .lf) (nN Tryz.f503 .lf .lf)))))) (nN Tryz.f11 (nN Tryz.f19 (nN Tryz.f35 (nN Tryz.f67 (nN Tryz.f131 (nN Tryz.f259 (nN Tryz.f515 .lf .lf) .lf) (nN Tryz.f387 (nN Tryz.f643 .lf .lf) .lf)) (nN Tryz.f195 (nN Tryz.f323 (nN Tryz.f579 .lf .lf) .lf) (nN Tryz.f451 .lf .lf))) (nN Tryz.f99 (nN Tryz.f163 (nN Tryz.f291 (nN Tryz.f547 .lf .lf) .lf) (nN Tryz.f419 (nN Tryz.f675 .lf .lf) .lf)) (nN Tryz.f227 (nN Tryz.f355 (nN Tryz.f611 .lf .lf) .lf) (nN Tryz.f483 .lf .lf)))) (nN Tryz.f51 (nN Tryz.f83 (nN Tryz.f147 (nN Tryz.f275 (nN Tryz.f531 .lf .lf) .lf) (nN Tryz.f403 (nN Tryz.f659 .lf .lf) .lf)) (nN Tryz.f211 (nN Tryz.f339 (nN Tryz.f595 .lf .lf) .lf) (nN Tryz.f467 .lf .lf))) (nN Tryz.f115 (nN Tryz.f179 (nN Tryz.f307 (nN Tryz.f563 .lf .lf) .lf) (nN Tryz.f435 .lf .lf)) (nN Tryz.f243 (nN Tryz.f371 (nN Tryz.f627 .lf .lf) .lf) (nN Tryz.f499 .lf .lf))))) (nN Tryz.f27 (nN Tryz.f43 (nN Tryz.f75 (nN Tryz.f139 (nN Tryz.f267 (nN Tryz.f523 .lf .lf) .lf) (nN Tryz.f395 (nN Tryz.f651 .lf .lf) .lf)) (nN Tryz.f203 (nN Tryz.f331 (nN Tryz.f587 .lf .lf) .lf) (nN Tryz.f459 .lf .lf))) (nN Tryz.f107 (nN Tryz.f171 (nN Tryz.f299 (nN Tryz.f555 .lf .lf) .lf) (nN Tryz.f427 .lf .lf)) (nN Tryz.f235 (nN Tryz.f363 (nN Tryz.f619 .lf .lf) .lf) (nN Tryz.f491 .lf .lf)))) (nN Tryz.f59 (nN Tryz.f91 (nN Tryz.f155 (nN Tryz.f283 (nN Tryz.f539 .lf .lf) .lf) (nN Tryz.f411 (nN Tryz.f667 .lf .lf) .lf)) (nN Tryz.f219 (nN Tryz.f347 (nN Tryz.f603 .lf .lf) .lf) (nN Tryz.f475 .lf .lf))) (nN Tryz.f123 (nN Tryz.f187 (nN Tryz.f315 (nN Tryz.f571 .lf .lf) .lf) (nN Tryz.f443 .lf .lf)) (nN Tryz.f251 (nN Tryz.f379 (nN Tryz.f635 .lf .lf) .lf) (nN Tryz.f507 .lf .lf))))))) (nN Tryz.f5 (nN Tryz.f9 (nN Tryz.f17 (nN Tryz.f33 (nN Tryz.f65 (nN Tryz.f129 (nN Tryz.f257 (nN Tryz.f513 .lf .lf) .lf) (nN Tryz.f385 (nN Tryz.f641 .lf .lf) .lf)) (nN Tryz.f193 (nN Tryz.f321 (nN Tryz.f577 .lf .lf) .lf) (nN Tryz.f449 .lf .lf))) (nN Tryz.f97 (nN Tryz.f161 (nN Tryz.f289 (nN Tryz.f545 .lf .lf) .lf) (nN Tryz.f417 (nN Tryz.f673 .lf .lf) .lf)) (nN Tryz.f225 (nN Tryz.f353 (nN Tryz.f609 .lf .lf) .lf) (nN Tryz.f481 .lf .lf)))) (nN Tryz.f49 (nN Tryz.f81 (nN Tryz.f145 (nN Tryz.f273 (nN Tryz.f529 .lf .lf) .lf) (nN Tryz.f401 (nN Tryz.f657 .lf .lf) .lf)) (nN Tryz.f209 (nN Tryz.f337 (nN Tryz.f593 .lf .lf) .lf) (nN Tryz.f465 .lf .lf))) (nN Tryz.f113 (nN Tryz.f177 (nN Tryz.f305 (nN Tryz.f561 .lf .lf) .lf) (nN Tryz.f433 .lf .lf)) (nN Tryz.f241 (nN Tryz.f369 (nN Tryz.f625 .lf .lf) .lf) (nN Tryz.f497 .lf .lf))))) (nN Tryz.f25 (nN Tryz.f41 (nN Tryz.f73 (nN Tryz.f137 (nN Tryz.f265 (nN Tryz.f521 .lf .lf) .lf) (nN Tryz.f393 (nN Tryz.f649 .lf .lf) .lf)) (nN Tryz.f201 (nN Tryz.f329 (nN Tryz.f585 .lf .lf) .lf) (nN Tryz.f457 .lf .lf))) (nN Tryz.f105 (nN Tryz.f169 (nN Tryz.f297 (nN Tryz.f553 .lf .lf) .lf) (nN Tryz.f425 .lf .lf)) (nN Tryz.f233 (nN Tryz.f361 (nN Tryz.f617 .lf .lf) .lf) (nN Tryz.f489 .lf .lf)))) (nN Tryz.f57 (nN Tryz.f89 (nN Tryz.f153 (nN Tryz.f281 (nN Tryz.f537 .lf .lf) .lf) (nN Tryz.f409 (nN Tryz.f665 .lf .lf) .lf)) (nN Tryz.f217 (nN Tryz.f345 (nN Tryz.f601 .lf .lf) .lf) (nN Tryz.f473 .lf .lf))) (nN Tryz.f121 (nN Tryz.f185 (nN Tryz.f313 (nN Tryz.f569 .lf .lf) .lf) (nN Tryz.f441 .lf .lf)) (nN Tryz.f249 (nN Tryz.f377 (nN Tryz.f633 .lf .lf) .lf) (nN Tryz.f505 .lf .lf)))))) (nN Tryz.f13 (nN Tryz.f21 (nN Tryz.f37 (nN Tryz.f69 (nN Tryz.f133 (nN Tryz.f261 (nN Tryz.f517 .lf .lf) .lf) (nN Tryz.f389 (nN Tryz.f645 .lf .lf) .lf)) (nN Tryz.f197 (nN Tryz.f325 (nN Tryz.f581 .lf .lf) .lf) (nN Tryz.f453 .lf .lf))) (nN Tryz.f101 (nN Tryz.f165 (nN Tryz.f293 (nN Tryz.f549 .lf .lf) .lf) (nN Tryz.f421 .lf .lf)) (nN Tryz.f229 (nN Tryz.f357 (nN Tryz.f613 .lf .lf) .lf) (nN Tryz.f485 .lf .lf)))) (nN Tryz.f53 (nN Tryz.f85 (nN Tryz.f149 (nN Tryz.f277 (nN Tryz.f533 .lf .lf) .lf) (nN Tryz.f405 (nN Tryz.f661 .lf .lf) .lf)) (nN Tryz.f213 (nN Tryz.f341 (nN Tryz.f597 .lf .lf) .lf) (nN Tryz.f469 .lf .lf))) (nN Tryz.f117 (nN Tryz.f181 (nN Tryz.f309 (nN Tryz.f565 .lf .lf) .lf) (nN Tryz.f437 .lf .lf)) (nN Tryz.f245 (nN Tryz.f373 (nN Tryz.f629 .lf .lf) .lf) (nN Tryz.f501 .lf .lf))))) (nN Tryz.f29 (nN Tryz.f45 (nN Tryz.f77 (nN Tryz.f141 (nN Tryz.f269 (nN Tryz.f525 .lf .lf) .lf) (nN Tryz.f397 (nN Tryz.f653 .lf .lf) .lf)) (nN Tryz.f205 (nN Tryz.f333 (nN Tryz.f589 .lf .lf) .lf) (nN Tryz.f461 .lf .lf))) (nN Tryz.f109 (nN Tryz.f173 (nN Tryz.f301 (nN Tryz.f557 .lf .lf) .lf) (nN Tryz.f429 .lf .lf)) (nN Tryz.f237 (nN Tryz.f365 (nN Tryz.f621 .lf .lf) .lf) (nN Tryz.f493 .lf .lf)))) (nN Tryz.f61 (nN Tryz.f93 (nN Tryz.f157 (nN Tryz.f285 (nN Tryz.f541 .lf .lf) .lf) (nN Tryz.f413 (nN Tryz.f669 .lf .lf) .lf)) (nN Tryz.f221 (nN Tryz.f349 (nN Tryz.f605 .lf .lf) .lf) (nN Tryz.f477 .lf .lf))) (nN Tryz.f125 (nN Tryz.f189 (nN Tryz.f317 (nN Tryz.f573 .lf .lf) .lf) (nN Tryz.f445 .lf .lf)) (nN Tryz.f253 (nN Tryz.f381 (nN Tryz.f637 .lf .lf) .lf) (nN Tryz.f509 .lf .lf)))))))) (nN Tryz.f2 (nN Tryz.f4 (nN Tryz.f8 (nN Tryz.f16 (nN Tryz.f32 (nN Tryz.f64 (nN Tryz.f128 (nN Tryz.f256 (nN Tryz.f512 .lf .lf) .lf) (nN Tryz.f384 (nN Tryz.f640 .lf .lf) .lf)) (nN Tryz.f192 (nN Tryz.f320 (nN Tryz.f576 .lf .lf) .lf) (nN Tryz.f448 .lf .lf))) (nN Tryz.f96 (nN Tryz.f160 (nN Tryz.f288 (nN Tryz.f544 .lf .lf) .lf) (nN Tryz.f416 (nN Tryz.f672 .lf .lf) .lf)) (nN Tryz.f224 (nN Tryz.f352 (nN Tryz.f608 .lf .lf) .lf) (nN Tryz.f480 .lf .lf)))) (nN Tryz.f48 (nN Tryz.f80 (nN Tryz.f144 (nN Tryz.f272 (nN Tryz.f528 .lf .lf) .lf) (nN Tryz.f400 (nN Tryz.f656 .lf .lf) .lf)) (nN Tryz.f208 (nN Tryz.f336 (nN Tryz.f592 .lf .lf) .lf) (nN Tryz.f464 .lf .lf))) (nN Tryz.f112 (nN Tryz.f176 (nN Tryz.f304 (nN Tryz.f560 .lf .lf) .lf) (nN Tryz.f432 .lf .lf)) (nN Tryz.f240 (nN Tryz.f368 (nN Tryz.f624 .lf .lf) .lf) (nN Tryz.f496 .lf .lf))))) (nN Tryz.f24 (nN Tryz.f40 (nN Tryz.f72 (nN Tryz.f136 (nN Tryz.f264 (nN Tryz.f520 .lf .lf) .lf) (nN Tryz.f392 (nN Tryz.f648 .lf .lf) .lf)) (nN Tryz.f200 (nN Tryz.f328 (nN Tryz.f584 .lf .lf) .lf) (nN Tryz.f456 .lf .lf))) (nN Tryz.f104 (nN Tryz.f168 (nN Tryz.f296 (nN Tryz.f552 .lf .lf) .lf) (nN Tryz.f424 .lf .lf)) (nN Tryz.f232 (nN Tryz.f360 (nN Tryz.f616 .lf .lf) .lf) (nN Tryz.f488 .lf .lf)))) (nN Tryz.f56 (nN Tryz.f88 (nN Tryz.f152 (nN Tryz.f280 (nN Tryz.f536 .lf .lf) .lf) (nN Tryz.f408 (nN Tryz.f664 .lf .lf) .lf)) (nN Tryz.f216 (nN Tryz.f344 (nN Tryz.f600 .lf .lf) .lf) (nN Tryz.f472 .lf .lf))) (nN Tryz.f120 (nN Tryz.f184 (nN Tryz.f312 (nN Tryz.f568 .lf .lf) .lf) (nN Tryz.f440 .lf .lf)) (nN Tryz.f248 (nN Tryz.f376 (nN Tryz.f632 .lf .lf) .lf) (nN Tryz.f504 .lf .lf)))))) (nN Tryz.f12 (nN Tryz.f20 (nN Tryz.f36 (nN Tryz.f68 (nN Tryz.f132 (nN Tryz.f260 (nN Tryz.f516 .lf .lf) .lf) (nN Tryz.f388 (nN Tryz.f644 .lf .lf) .lf)) (nN Tryz.f196 (nN Tryz.f324 (nN Tryz.f580 .lf .lf) .lf) (nN Tryz.f452 .lf .lf))) (nN Tryz.f100 (nN Tryz.f164 (nN Tryz.f292 (nN Tryz.f548 .lf .lf) .lf) (nN Tryz.f420 (nN Tryz.f676 .lf .lf) .lf)) (nN Tryz.f228 (nN Tryz.f356 (nN Tryz.f612 .lf .lf) .lf) (nN Tryz.f484 .lf .lf)))) (nN Tryz.f52 (nN Tryz.f84 (nN Tryz.f148 (nN Tryz.f276 (nN Tryz.f532 .lf .lf) .lf) (nN Tryz.f404 (nN Tryz.f660 .lf .lf) .lf)) (nN Tryz.f212 (nN Tryz.f340 (nN Tryz.f596 .lf .lf) .lf) (nN Tryz.f468 .lf .lf))) (nN Tryz.f116 (nN Tryz.f180 (nN Tryz.f308 (nN Tryz.f564 .lf .lf) .lf) (nN Tryz.f436 .lf .lf)) (nN Tryz.f244 (nN Tryz.f372 (nN Tryz.f628 .lf .lf) .lf) (nN Tryz.f500 .lf .lf))))) (nN Tryz.f28 (nN Tryz.f44 (nN Tryz.f76 (nN Tryz.f140 (nN Tryz.f268 (nN Tryz.f524 .lf .lf) .lf) (nN Tryz.f396 (nN Tryz.f652 .lf .lf) .lf)) (nN Tryz.f204 (nN Tryz.f332 (nN Tryz.f588 .lf .lf) .lf) (nN Tryz.f460 .lf .lf))) (nN Tryz.f108 (nN Tryz.f172 (nN Tryz.f300 (nN Tryz.f556 .lf .lf) .lf) (nN Tryz.f428 .lf .lf)) (nN Tryz.f236 (nN Tryz.f364 (nN Tryz.f620 .lf .lf) .lf) (nN Tryz.f492 .lf .lf)))) (nN Tryz.f60 (nN Tryz.f92 (nN Tryz.f156 (nN Tryz.f284 (nN Tryz.f540 .lf .lf) .lf) (nN Tryz.f412 (nN Tryz.f668 .lf .lf) .lf)) (nN Tryz.f220 (nN Tryz.f348 (nN Tryz.f604 .lf .lf) .lf) (nN Tryz.f476 .lf .lf))) (nN Tryz.f124 (nN Tryz.f188 (nN Tryz.f316 (nN Tryz.f572 .lf .lf) .lf) (nN Tryz.f444 .lf .lf)) (nN Tryz.f252 (nN Tryz.f380 (nN Tryz.f636 .lf .lf) .lf) (nN Tryz.f508 .lf .lf))))))) (nN Tryz.f6 (nN Tryz.f10 (nN Tryz.f18 (nN Tryz.f34 (nN Tryz.f66 (nN Tryz.f130 (nN Tryz.f258 (nN Tryz.f514 .lf .lf) .lf) (nN Tryz.f386 (nN Tryz.f642 .lf .lf) .lf)) (nN Tryz.f194 (nN Tryz.f322 (nN Tryz.f578 .lf .lf) .lf) (nN Tryz.f450 .lf .lf))) (nN Tryz.f98 (nN Tryz.f162 (nN Tryz.f290 (nN Tryz.f546 .lf .lf) .lf) (nN Tryz.f418 (nN Tryz.f674 .lf .lf) .lf)) (nN Tryz.f226 (nN Tryz.f354 (nN Tryz.f610 .lf .lf) .lf) (nN Tryz.f482 .lf .lf)))) (nN Tryz.f50 (nN Tryz.f82 (nN Tryz.f146 (nN Tryz.f274 (nN Tryz.f530 .lf .lf) .lf) (nN Tryz.f402 (nN Tryz.f658 .lf .lf) .lf)) (nN Tryz.f210 (nN Tryz.f338 (nN Tryz.f594 .lf .lf) .lf) (nN Tryz.f466 .lf .lf))) (nN Tryz.f114 (nN Tryz.f178 (nN Tryz.f306 (nN Tryz.f562 .lf .lf) .lf) (nN Tryz.f434 .lf .lf)) (nN Tryz.f242 (nN Tryz.f370 (nN Tryz.f626 .lf .lf) .lf) (nN Tryz.f498 .lf .lf))))) (nN Tryz.f26 (nN Tryz.f42 (nN Tryz.f74 (nN Tryz.f138 (nN Tryz.f266 (nN Tryz.f522 .lf .lf) .lf) (nN Tryz.f394 (nN Tryz.f650 .lf .lf) .lf)) (nN Tryz.f202 (nN Tryz.f330 (nN Tryz.f586 .lf .lf) .lf) (nN Tryz.f458 .lf .lf))) (nN Tryz.f106 (nN Tryz.f170 (nN Tryz.f298 (nN Tryz.f554 .lf .lf) .lf) (nN Tryz.f426 .lf .lf)) (nN Tryz.f234 (nN Tryz.f362 (nN Tryz.f618 .lf .lf) .lf) (nN Tryz.f490 .lf .lf)))) (nN Tryz.f58 (nN Tryz.f90 (nN Tryz.f154 (nN Tryz.f282 (nN Tryz.f538 .lf .lf) .lf) (nN Tryz.f410 (nN Tryz.f666 .lf .lf) .lf)) (nN Tryz.f218 (nN Tryz.f346 (nN Tryz.f602 .lf .lf) .lf) (nN Tryz.f474 .lf .lf))) (nN Tryz.f122 (nN Tryz.f186 (nN Tryz.f314 (nN Tryz.f570 .lf .lf) .lf) (nN Tryz.f442 .lf .lf)) (nN Tryz.f250 (nN Tryz.f378 (nN Tryz.f634 .lf .lf) .lf) (nN Tryz.f506 .lf .lf)))))) (nN Tryz.f14 (nN Tryz.f22 (nN Tryz.f38 (nN Tryz.f70 (nN Tryz.f134 (nN Tryz.f262 (nN Tryz.f518 .lf .lf) .lf) (nN Tryz.f390 (nN Tryz.f646 .lf .lf) .lf)) (nN Tryz.f198 (nN Tryz.f326 (nN Tryz.f582 .lf .lf) .lf) (nN Tryz.f454 .lf .lf))) (nN Tryz.f102 (nN Tryz.f166 (nN Tryz.f294 (nN Tryz.f550 .lf .lf) .lf) (nN Tryz.f422 .lf .lf)) (nN Tryz.f230 (nN Tryz.f358 (nN Tryz.f614 .lf .lf) .lf) (nN Tryz.f486 .lf .lf)))) (nN Tryz.f54 (nN Tryz.f86 (nN Tryz.f150 (nN Tryz.f278 (nN Tryz.f534 .lf .lf) .lf) (nN Tryz.f406 (nN Tryz.f662 .lf .lf) .lf)) (nN Tryz.f214 (nN Tryz.f342 (nN Tryz.f598 .lf .lf) .lf) (nN Tryz.f470 .lf .lf))) (nN Tryz.f118 (nN Tryz.f182 (nN Tryz.f310 (nN Tryz.f566 .lf .lf) .lf) (nN Tryz.f438 .lf .lf)) (nN Tryz.f246 (nN Tryz.f374 (nN Tryz.f630 .lf .lf) .lf) (nN Tryz.f502 .lf .lf))))) (nN Tryz.f30 (nN Tryz.f46 (nN Tryz.f78 (nN Tryz.f142 (nN Tryz.f270 (nN Tryz.f526 .lf .lf) .lf) (nN Tryz.f398 (nN Tryz.f654 .lf .lf) .lf)) (nN Tryz.f206 (nN Tryz.f334 (nN Tryz.f590 .lf .lf) .lf) (nN Tryz.f462 .lf .lf))) (nN Tryz.f110 (nN Tryz.f174 (nN Tryz.f302 (nN Tryz.f558 .lf .lf) .lf) (nN Tryz.f430 .lf .lf)) (nN Tryz.f238 (nN Tryz.f366 (nN Tryz.f622 .lf .lf) .lf) (nN Tryz.f494 .lf .lf)))) (nN Tryz.f62 (nN Tryz.f94 (nN Tryz.f158 (nN Tryz.f286 (nN Tryz.f542 .lf .lf) .lf) (nN Tryz.f414 (nN Tryz.f670 .lf .lf) .lf)) (nN Tryz.f222 (nN Tryz.f350 (nN Tryz.f606 .lf .lf) .lf) (nN Tryz.f478 .lf .lf))) (nN Tryz.f126 (nN Tryz.f190 (nN Tryz.f318 (nN Tryz.f574 .lf .lf) .lf) (nN Tryz.f446 .lf .lf)) (nN Tryz.f254 (nN Tryz.f382 (nN Tryz.f638 .lf .lf) .lf) (nN Tryz.f510 .lf .lf)))))))))
noncomputable def ZlR:Tr Nat:=(nN 0 (nN 0 (nN 154742800058577713715254771 (nN 5192338969047902625196513354092541 (nN 16455 (nN 1 (nN 15 (nN 144115200960774343 (nN 17179886351 (nN 262173 .lf .lf) .lf) (nN 288231475663604767 (nN 0 .lf .lf) .lf)) (nN 5 (nN 3 (nN 1 .lf .lf) .lf) (nN 34393293647 .lf .lf))) (nN 21 (nN 19473648520706207646500343760426935 (nN 51 (nN 5 .lf .lf) .lf) (nN 13 (nN 0 .lf .lf) .lf)) (nN 271 (nN 583 (nN 5 .lf .lf) .lf) (nN 262927 .lf .lf)))) (nN 274945019847 (nN 5 (nN 33543 (nN 1079 (nN 7 .lf .lf) .lf) (nN 65587 (nN 0 .lf .lf) .lf)) (nN 1048595 (nN 5 (nN 21 .lf .lf) .lf) (nN 15 .lf .lf))) (nN 27 (nN 31 (nN 65549 (nN 66227 .lf .lf) .lf) (nN 253 .lf .lf)) (nN 5 (nN 19039345727148405560307 (nN 68192301 .lf .lf) .lf) (nN 1031 .lf .lf))))) (nN 19 (nN 7951 (nN 27 (nN 5 (nN 15 (nN 8389591 .lf .lf) .lf) (nN 71 (nN 0 .lf .lf) .lf)) (nN 2477089018242321750037658995 (nN 147 (nN 19 .lf .lf) .lf) (nN 3 .lf .lf))) (nN 7725 (nN 263149 (nN 567348000196595 (nN 29 .lf .lf) .lf) (nN 13 .lf .lf)) (nN 33019 (nN 19 (nN 271 .lf .lf) .lf) (nN 499 .lf .lf)))) (nN 5 (nN 123 (nN 5226742140537219659672453590567247130143483 (nN 19 (nN 20981823 .lf .lf) .lf) (nN 296683421546300851 (nN 15 .lf .lf) .lf)) (nN 251658285 (nN 5139 (nN 1333065575601045263 .lf .lf) .lf) (nN 20426010943356750102455122975 .lf .lf))) (nN 11417986986497897357150678644941553602512494451 (nN 263149 (nN 8388679 (nN 3 .lf .lf) .lf) (nN 37778932003695186936829 .lf .lf)) (nN 613018418207004623 (nN 51 (nN 19023213622105999119 .lf .lf) .lf) (nN 66483 .lf .lf)))))) (nN 79 (nN 16499 (nN 525199 (nN 65735 (nN 13 (nN 33543 (nN 67615 .lf .lf) .lf) (nN 21 (nN 0 .lf .lf) .lf)) (nN 1599 (nN 5 (nN 27 .lf .lf) .lf) (nN 8396879 .lf .lf))) (nN 8388671 (nN 15 (nN 21 (nN 66483 .lf .lf) .lf) (nN 8388723 (nN 0 .lf .lf) .lf)) (nN 5905590299 (nN 30819 (nN 77 .lf .lf) .lf) (nN 5 .lf .lf)))) (nN 1 (nN 70368744194547 (nN 277 (nN 8804682991559 (nN 550293734159 .lf .lf) .lf) (nN 16371 (nN 67108895 .lf .lf) .lf)) (nN 19 (nN 2147517383 (nN 5 .lf .lf) .lf) (nN 19 .lf .lf))) (nN 66483 (nN 275004779983 (nN 13 (nN 1114173 .lf .lf) .lf) (nN 33558421 .lf .lf)) (nN 15 (nN 7 (nN 20829169751433159 .lf .lf) .lf) (nN 5 .lf .lf))))) (nN 5 (nN 16471 (nN 19 (nN 17179886351 (nN 324259302153912691 (nN 15395 .lf .lf) .lf) (nN 18014433942971335 (nN 0 .lf .lf) .lf)) (nN 531 (nN 18893825420109763575895 (nN 21 .lf .lf) .lf) (nN 7872557 .lf .lf))) (nN 1005 (nN 504373101 (nN 1250034019870527468820103091 (nN 16781263 .lf .lf) .lf) (nN 63 .lf .lf)) (nN 19 (nN 5 (nN 183 .lf .lf) .lf) (nN 2097683 .lf .lf)))) (nN 19 (nN 0 (nN 69272573 (nN 21 (nN 19 .lf .lf) .lf) (nN 7 (nN 0 .lf .lf) .lf)) (nN 131229 (nN 19 (nN 22997644815212700899627017342834150232570911 .lf .lf) .lf) (nN 140737774617843 .lf .lf))) (nN 524315 (nN 5 (nN 3 (nN 19 .lf .lf) .lf) (nN 11 .lf .lf)) (nN 31 (nN 4612814001460592119 (nN 1055 .lf .lf) .lf) (nN 4835998435933849571639293 .lf .lf))))))) (nN 2923047876833100597675273605429801304496593436669 (nN 1 (nN 19 (nN 34376516039 (nN 27 (nN 19 (nN 35218731966215 (nN 4157 .lf .lf) .lf) (nN 4159 (nN 0 .lf .lf) .lf)) (nN 2342933 (nN 2067 (nN 13 .lf .lf) .lf) (nN 16445 .lf .lf))) (nN 17729625129981 (nN 5 (nN 5 (nN 5 .lf .lf) .lf) (nN 243 (nN 0 .lf .lf) .lf)) (nN 525 (nN 138350582614437397165 (nN 5 .lf .lf) .lf) (nN 17179886351 .lf .lf)))) (nN 94456553174290953001971 (nN 257698066803 (nN 1217485249602318769183 (nN 1073746119 (nN 140746111846343 .lf .lf) .lf) (nN 0 (nN 0 .lf .lf) .lf)) (nN 13 (nN 34426864071 (nN 0 .lf .lf) .lf) (nN 147844450044442838975 .lf .lf))) (nN 7981 (nN 5 (nN 5 (nN 183 .lf .lf) .lf) (nN 66037 .lf .lf)) (nN 1965 (nN 27 (nN 1074268103 .lf .lf) .lf) (nN 39 .lf .lf))))) (nN 1 (nN 157 (nN 1080881631747358707 (nN 66483 (nN 15795 (nN 271 .lf .lf) .lf) (nN 19 (nN 0 .lf .lf) .lf)) (nN 1039 (nN 4125 (nN 71 .lf .lf) .lf) (nN 11 .lf .lf))) (nN 15 (nN 15 (nN 19 (nN 4139 .lf .lf) .lf) (nN 51 .lf .lf)) (nN 2252933685051515 (nN 0 (nN 525405 .lf .lf) .lf) (nN 8363 .lf .lf)))) (nN 35218732335197 (nN 5 (nN 334511859788885004819326850109624151542083039 (nN 22458641409078797123448399039441150152463 (nN 594912002450663878599 .lf .lf) .lf) (nN 689343567347 (nN 0 .lf .lf) .lf)) (nN 133005 (nN 8863678612461182435707 (nN 21268317252094917911888073248812900111 .lf .lf) .lf) (nN 19 .lf .lf))) (nN 36267774588438875241185427 (nN 1 (nN 1048637 (nN 8223 .lf .lf) .lf) (nN 68719607821 .lf .lf)) (nN 39328015651735262036162423 (nN 17188391667 (nN 4503668346913551 .lf .lf) .lf) (nN 65735 .lf .lf)))))) (nN 1 (nN 83 (nN 14688381 (nN 72568036425671 (nN 2148008051 (nN 1217485249602318769183 (nN 15 .lf .lf) .lf) (nN 51 (nN 0 .lf .lf) .lf)) (nN 458783 (nN 83 (nN 749019592093908130998168547243562859198691857383367 .lf .lf) .lf) (nN 5 .lf .lf))) (nN 31 (nN 19 (nN 4203215 (nN 66483 .lf .lf) .lf) (nN 11 .lf .lf)) (nN 2417866393021843827065615 (nN 8590917717 (nN 0 .lf .lf) .lf) (nN 66483 .lf .lf)))) (nN 1126415370032379 (nN 5 (nN 3 (nN 8391 (nN 3 .lf .lf) .lf) (nN 13 (nN 271 .lf .lf) .lf)) (nN 3 (nN 51 (nN 8592039695 .lf .lf) .lf) (nN 13 .lf .lf))) (nN 1298074524128170109412448986250103 (nN 144185567834316787 (nN 32797 (nN 67124829 .lf .lf) .lf) (nN 38690352926684213510420989 .lf .lf)) (nN 311 (nN 554176735 (nN 83087207854311395603287443752634311 .lf .lf) .lf) (nN 8363 .lf .lf))))) (nN 1079475 (nN 537399539 (nN 19 (nN 35218731966215 (nN 7 (nN 77371400029852906322661199 .lf .lf) .lf) (nN 575 (nN 0 .lf .lf) .lf)) (nN 65543 (nN 3 (nN 11 .lf .lf) .lf) (nN 5 .lf .lf))) (nN 5 (nN 37 (nN 302249969765774879014387 (nN 17389 .lf .lf) .lf) (nN 243 .lf .lf)) (nN 5 (nN 524487 (nN 4197407 .lf .lf) .lf) (nN 31 .lf .lf)))) (nN 604275 (nN 66483 (nN 31 (nN 31 (nN 0 .lf .lf) .lf) (nN 16627 (nN 0 .lf .lf) .lf)) (nN 5 (nN 3 (nN 71468256854525 .lf .lf) .lf) (nN 19 .lf .lf))) (nN 635063844912035382370706260187 (nN 5 (nN 125829163 (nN 7 .lf .lf) .lf) (nN 37778931895942527332175 .lf .lf)) (nN 16806963 (nN 2061 (nN 0 .lf .lf) .lf) (nN 295148045916841206269 .lf .lf)))))))) (nN 0 (nN 19807041219438359911736550899 (nN 10716901349850860173186164703109314301 (nN 5 (nN 1 (nN 295147905181504570311 (nN 2097155 (nN 8592039695 (nN 19 .lf .lf) .lf) (nN 271 (nN 0 .lf .lf) .lf)) (nN 4835998443252202707386583 (nN 11 (nN 537399539 .lf .lf) .lf) (nN 131083 .lf .lf))) (nN 21 (nN 1005 (nN 65619 (nN 13 .lf .lf) .lf) (nN 31 (nN 0 .lf .lf) .lf)) (nN 4159 (nN 15395 (nN 8363 .lf .lf) .lf) (nN 66483 .lf .lf)))) (nN 1075 (nN 8590460915 (nN 21268317252094917911888073248812900111 (nN 19 (nN 2147484495 .lf .lf) .lf) (nN 5 (nN 0 .lf .lf) .lf)) (nN 1039 (nN 4147 (nN 21 .lf .lf) .lf) (nN 7 .lf .lf))) (nN 51 (nN 5 (nN 21 (nN 37 .lf .lf) .lf) (nN 33019 .lf .lf)) (nN 128853350703 (nN 524295 (nN 1073746119 .lf .lf) .lf) (nN 66227 .lf .lf))))) (nN 1108102087231 (nN 1005 (nN 65735 (nN 29 (nN 65549 (nN 7 .lf .lf) .lf) (nN 1055 (nN 0 .lf .lf) .lf)) (nN 590295880727449831419 (nN 5 (nN 71 .lf .lf) .lf) (nN 33569849 .lf .lf))) (nN 66483 (nN 10384593871817177683247510831234831 (nN 4256711 (nN 36028934491488199 .lf .lf) .lf) (nN 29 .lf .lf)) (nN 4019 (nN 0 (nN 4159 .lf .lf) .lf) (nN 5 .lf .lf)))) (nN 563 (nN 42535296023574879666274036850519702559 (nN 71001209263 (nN 19023213622105999119 (nN 239 .lf .lf) .lf) (nN 13 (nN 0 .lf .lf) .lf)) (nN 567412426600813 (nN 65735 (nN 33543 .lf .lf) .lf) (nN 139293 .lf .lf))) (nN 1 (nN 1 (nN 5497574916219 (nN 19 .lf .lf) .lf) (nN 967 .lf .lf)) (nN 268685555 (nN 5 (nN 22458641409078797123448399039441150152463 .lf .lf) .lf) (nN 15 .lf .lf)))))) (nN 19 (nN 2199023273011 (nN 5 (nN 5 (nN 13 (nN 21268317252094917911888073248812900111 (nN 19 .lf .lf) .lf) (nN 1 (nN 0 .lf .lf) .lf)) (nN 316917183598056228495340611247 (nN 8592032243 (nN 15 .lf .lf) .lf) (nN 563637148190971 .lf .lf))) (nN 19 (nN 2147547251 (nN 21 (nN 27 .lf .lf) .lf) (nN 1073742151 (nN 0 .lf .lf) .lf)) (nN 5 (nN 1048621 (nN 5 .lf .lf) .lf) (nN 10141243564195130475776321258483 .lf .lf)))) (nN 999 (nN 21 (nN 16661 (nN 20829169751433159 (nN 527 .lf .lf) .lf) (nN 19 (nN 15 .lf .lf) .lf)) (nN 1 (nN 199 (nN 17179886351 .lf .lf) .lf) (nN 21 .lf .lf))) (nN 983639 (nN 41539563364460844579556453984350151 (nN 51 (nN 2147516541 .lf .lf) .lf) (nN 3 .lf .lf)) (nN 15 (nN 7 (nN 8391 .lf .lf) .lf) (nN 19 .lf .lf))))) (nN 5 (nN 266483 (nN 15 (nN 8592039695 (nN 42941682370112774214571656958967 (nN 5 .lf .lf) .lf) (nN 277027520455 (nN 0 .lf .lf) .lf)) (nN 1075 (nN 3 (nN 21 .lf .lf) .lf) (nN 131527 .lf .lf))) (nN 73786994986603069947 (nN 1125899906843133 (nN 134344563 (nN 31 .lf .lf) .lf) (nN 11 .lf .lf)) (nN 4398061260095 (nN 5 (nN 10384593871817177683247510831234831 .lf .lf) .lf) (nN 17172461 .lf .lf)))) (nN 31 (nN 3 (nN 2597416389966559543831669529624439 (nN 3 (nN 66483 .lf .lf) .lf) (nN 537861575 (nN 0 .lf .lf) .lf)) (nN 288231475663604767 (nN 22283071823440757529134497843 (nN 35 .lf .lf) .lf) (nN 4197407 .lf .lf))) (nN 4547157075 (nN 562984313168381 (nN 3 (nN 5 .lf .lf) .lf) (nN 34363936607 .lf .lf)) (nN 16806963 (nN 83 (nN 262927 .lf .lf) .lf) (nN 8221 .lf .lf))))))) (nN 23384070799465740799050493674393735315060334566909 (nN 309239218299 (nN 285 (nN 38761258166635907579383291 (nN 2128051 (nN 5 (nN 1333065575601045263 (nN 2251939400122567 .lf .lf) .lf) (nN 5 (nN 0 .lf .lf) .lf)) (nN 19 (nN 3 (nN 7 .lf .lf) .lf) (nN 2099319 .lf .lf))) (nN 33563639 (nN 19 (nN 19 (nN 5 .lf .lf) .lf) (nN 5 (nN 0 .lf .lf) .lf)) (nN 188895235916275734577139 (nN 7213 (nN 3259264009699125022261772349 .lf .lf) .lf) (nN 13164839976634628298295110780136696778032692856359452003713154079 .lf .lf)))) (nN 1053 (nN 310712898894994471811031483 (nN 22997644815212700899627017342834150232570911 (nN 1074268103 (nN 67109047 .lf .lf) .lf) (nN 79300698068197157571487579599 (nN 0 .lf .lf) .lf)) (nN 27 (nN 1099511694279 (nN 0 .lf .lf) .lf) (nN 524353 .lf .lf))) (nN 66483 (nN 36507352527 (nN 16599 (nN 42535296023574879666274036850519702559 .lf .lf) .lf) (nN 8693 .lf .lf)) (nN 19 (nN 7 (nN 8804682991559 .lf .lf) .lf) (nN 11 .lf .lf))))) (nN 33571891 (nN 83890375 (nN 7725 (nN 15 (nN 31159 (nN 7864639 .lf .lf) .lf) (nN 7 (nN 0 .lf .lf) .lf)) (nN 1099511629939 (nN 70643890527687 (nN 19 .lf .lf) .lf) (nN 2067 .lf .lf))) (nN 16785173 (nN 737878770182063685613 (nN 7859 (nN 183 .lf .lf) .lf) (nN 7 .lf .lf)) (nN 138351151749653378483 (nN 4197407 (nN 261 .lf .lf) .lf) (nN 9444733000992449363959 .lf .lf)))) (nN 21 (nN 5 (nN 1031 (nN 5 (nN 17247509535 .lf .lf) .lf) (nN 13 (nN 0 .lf .lf) .lf)) (nN 0 (nN 8207 (nN 1217485249602318769183 .lf .lf) .lf) (nN 7 .lf .lf))) (nN 17592186046587 (nN 19 (nN 51 (nN 134218031 .lf .lf) .lf) (nN 15 .lf .lf)) (nN 1074250695 (nN 17600780173423 (nN 71 .lf .lf) .lf) (nN 21 .lf .lf)))))) (nN 19 (nN 65663 (nN 63923 (nN 4131759593203 (nN 36413 (nN 22997644815212700899627017342834150232570911 (nN 76265790678452481800753170495095410003421 .lf .lf) .lf) (nN 4503668346913551 (nN 0 .lf .lf) .lf)) (nN 5 (nN 118 (nN 19 .lf .lf) .lf) (nN 1062983 .lf .lf))) (nN 278905490103 (nN 540243 (nN 127 (nN 9440287 .lf .lf) .lf) (nN 515 .lf .lf)) (nN 283 (nN 5 (nN 288231475663604767 .lf .lf) .lf) (nN 61603 .lf .lf)))) (nN 19 (nN 537346061 (nN 2658455991608517376935233854787067901 (nN 83087207854311395603287443752634311 (nN 3 .lf .lf) .lf) (nN 2158963 (nN 15 .lf .lf) .lf)) (nN 5 (nN 676998458984192338506578119 (nN 35218731966215 .lf .lf) .lf) (nN 2923003971560093291123168138537876760321514930163 .lf .lf))) (nN 4400194117677 (nN 4504149398914931 (nN 1035 (nN 3 .lf .lf) .lf) (nN 21 .lf .lf)) (nN 34426910711 (nN 2097283 (nN 19 .lf .lf) .lf) (nN 133 .lf .lf))))) (nN 29 (nN 15 (nN 15 (nN 1333065575601045263 (nN 66483 (nN 35218731829231 .lf .lf) .lf) (nN 8405055 (nN 0 .lf .lf) .lf)) (nN 583 (nN 21 (nN 9231 .lf .lf) .lf) (nN 19 .lf .lf))) (nN 17596514574653 (nN 15 (nN 5 (nN 604275 .lf .lf) .lf) (nN 519 .lf .lf)) (nN 5 (nN 17179886579 (nN 536871367 .lf .lf) .lf) (nN 5 .lf .lf)))) (nN 66483 (nN 15 (nN 42535296023574879666274036850519702559 (nN 19 (nN 0 .lf .lf) .lf) (nN 16806963 (nN 0 .lf .lf) .lf)) (nN 5 (nN 4723807778236704753479 (nN 5 .lf .lf) .lf) (nN 5 .lf .lf))) (nN 17834851696765 (nN 297458252888243450867 (nN 268501491 (nN 8211 .lf .lf) .lf) (nN 1074791247 .lf .lf)) (nN 1074250695 (nN 38685921377829519393562399 (nN 0 .lf .lf) .lf) (nN 17592186291155 .lf .lf)))))))))
noncomputable def Zkg (o:Option Nat):Nat:=@Option.rec Nat (fun _=>Nat) 0 (fun m=>m) o
noncomputable def VF (f:FuncId) (t:Tmp):Bool:=Nat.testBit (Zkg (ZlR.get f)) t
noncomputable def NN:Names:={ join:=234,add:=227,Zdb:=410,Zdd:=606,Zdc:=489,Zde:=608,clone:=401,Ci:=594,Cj:=593,Ck:=218,Zdf:=403 }
end
end Ev
end Go.Proofs.YtheflbaejhlboaaGreatDoor
