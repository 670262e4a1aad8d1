/- A part of the proof of a law of package confluencetop: lemmas, no condition of ours. -/
import Derived.Test.YtheflbaejhlboaaGreatDoorTopUn15
import Derived.LoopN
import Derived.Scope
import Derived.Orders
set_option linter.unusedVariables false
set_option linter.unusedSectionVars false
set_option linter.unusedSimpArgs false
namespace Go.Proofs.YtheflbaejhlboaaGreatDoor.Ev
open Go
variable [Sig] {P:Program}
theorem Pm {v:Zc} {b:Bool} (h:X0 v=some b):v = .bool b:=by
 unfold X0 at h
 split at h
 ·cases h; rfl
 ·cases h
theorem DK {r:Rho} {v:Zc} {u:Value} (h:X0 v=none) (hv:VR r v u) (b:Bool):u ≠ .bool b:=by
 rintro rfl
 cases hv
 ·cases h
 ·rename_i g _ _ hu _
  exact g.nob b hu
theorem Y3 (a b:Bool):S9 a b=(a==b):=by cases a <;> cases b <;> rfl
theorem Zaz {a:Act} {t:Tmp} {b:Bool} (h:a.tmps.getD t undef = .bool b):a.tmps[t]? = some (.bool b):=by
 rw [Array.getD_eq_getD_getElem?] at h
 cases hx:a.tmps[t]? with
 | none=>rw [hx] at h; cases h
 | some u=>rw [hx] at h; exact congrArg some h
theorem ZaA {a:Act} {t:Tmp} {u:Value} (h:a.tmps[t]? = some u):a.tmps.getD t undef=u:=by
 rw [Array.getD_eq_getD_getElem?,h]
 rfl
theorem Vt {r:Rho} {l:List Zc} {e0:Env} {co:Cod} {a:Act} {ops:Array Oper} {o:Oper} (hc:∀ t∈YX ops o,∀ v,Zn l e0 (co (.tmp t)) = .ok v→VR r v (a.tmps.getD t undef)) :
  (wanted l e0 (guardOf co ops o) = .yes→Region.wanted o (yielded ops a.tmps)=true)∧(wanted l e0 (guardOf co ops o) = .no→Region.wanted o (yielded ops a.tmps)=false):=by
 cases hg:o.guard with
 | none =>
  have h1:guardOf co ops o=none:=by unfold guardOf; rw [hg]
  have h2:Region.wanted o (yielded ops a.tmps)=true:=by unfold Region.wanted; rw [hg]
  rw [h1,h2]
  exact ⟨fun _=>rfl,fun h=>(by cases h)⟩
 | some jw =>
  obtain ⟨j,want⟩:=jw
  have h2:Region.wanted o (yielded ops a.tmps)=(yielded ops a.tmps j==some want):=by unfold Region.wanted; rw [hg]
  rw [h2]
  cases ht:(ops[j]?).bind (·.dst) with
  | none =>
   have h1:guardOf co ops o=some (.bad,want):=by unfold guardOf; rw [hg]; simp only [ht]
   rw [h1]
   exact ⟨fun h=>(by cases h),fun h=>(by cases h)⟩
  | some t =>
   have h1:guardOf co ops o=some (co (.tmp t),want):=by unfold guardOf; rw [hg]; simp only [ht]
   rw [h1]
   show (wtV want (Zn l e0 (co (.tmp t))) = .yes→(yielded ops a.tmps j==some want)=true)∧(wtV want (Zn l e0 (co (.tmp t))) = .no→(yielded ops a.tmps j==some want)=false)
   cases hv:Zn l e0 (co (.tmp t)) with
   | bad=>exact ⟨fun h=>(by cases h),fun h=>(by cases h)⟩
   | ok v =>
    have hvr:=hc t (by unfold YX; rw [hg]; simp only [ht]; exact List.mem_singleton.2 rfl) v hv
    have hy:yielded ops a.tmps j=X0 v:=by
     unfold yielded
     rw [ht]
     cases hb:X0 v with
     | some b =>
      have:=Pm hb
      subst this
      generalize hg2:a.tmps.getD t undef=g at hvr
      cases hvr
      have:=Zaz hg2
      simp [this]
     | none =>
      have hn:=DK hb hvr
      simp only [Option.bind_some]
      split
      ·rename_i b hb'
       exact absurd (ZaA hb') (hn b)
      ·rfl
    rw [hy]
    show (sel (isB want (X0 v)) Wt.yes Wt.no = .yes→_)∧(sel (isB want (X0 v)) Wt.yes Wt.no = .no→_)
    cases hb:X0 v with
    | none=>exact ⟨fun h=>(by cases h),fun _=>(by cases want <;> rfl)⟩
    | some b =>
     have:isB want (some b)=(b==want):=Y3 b want
     rw [this]
     cases b <;> cases want <;> exact ⟨fun h=>(by first | rfl | cases h),fun h=>(by first | rfl | cases h)⟩
theorem ZaB {go:List Zc→Env→St→Res} {l:List Zc} {e0 e e':Env} {s s':St} {x:Ex} {run:Cl} {d:Option (List Bool)} {g:Option (Z9×Bool)} (h:Zem go l e0 e s (.mk run d g) = .ok x e' s') :
  ∃ v s1,((wanted l e0 g = .yes∧run.run l e0 s = .ok v s1)∨(wanted l e0 g = .no∧v=Qu∧s1=s))∧go (v::l) (Kl e v d) s1 = .ok x e' s':=by
 have h:@Wt.rec (fun _=>Res) (@R.rec (fun _=>Res) (fun v s=>go (v::l) (Kl e v d) s) .bad (run.run l e0 s)) (go (Qu::l) (Kl e Qu d) s) .bad (wanted l e0 g) = .ok x e' s':=h
 cases hw:wanted l e0 g with
 | yes =>
  rw [hw] at h
  cases hr:run.run l e0 s with
  | bad=>rw [hr] at h; cases h
  | ok v s1=>rw [hr] at h; exact ⟨v,s1,.inl ⟨rfl,rfl⟩,h⟩
 | no=>rw [hw] at h; exact ⟨Qu,s,.inr ⟨rfl,rfl,rfl⟩,h⟩
 | bad=>rw [hw] at h; cases h
theorem Vu {ops:Array Oper} {Q:Exit→Act→World→Prop} {i:Nat} {rest:List Nat} {o:Oper} {a:Act} {w:World} (ho:ops[i]? = some o)
  (h1:Region.wanted o (yielded ops a.tmps)=true→o.wp P a w (wpOps P ops Q rest) Q) (h2:Region.wanted o (yielded ops a.tmps)=false→wpOps P ops Q rest (a.put o.dst undef) w) :
  wpOps P ops Q (i::rest) a w:=by
 simp only [wpOps,ho]
 split
 ·rename_i h; exact .inl (h1 h)
 ·rename_i h; exact h2 (by simpa using h)
theorem Uj {t:Nat}:Nat.beq t t=true:=Nat.beq_refl t
theorem ZaC {t d:Nat} (h:t≠d):Nat.beq t d=false:=by
 cases hb:Nat.beq t d
 ·rfl
 ·exact absurd (ZD hb) h
structure MvF (K:ZF) (n:Nat) (al:Al) (o:Oper) (d:Tmp) (al':Al):Prop where
 guard:o.guard=none
 dst:o.dst=some d
 Zi:K.Zi d=false
 op:∃ x,o.op = .move x∧ZT n al' d=Q7 n al x
 other:∀ t,t≠d→ZT n al' t=ZT n al t
 lts:Ww n al→Ww n al'
theorem ZaD {K:ZF} {al:Al} {o:Oper} {d:Tmp} {v:Value} (n:Nat) (h:DD K al o = .const d v):MvF K n al o d (.const d v al):=by
 obtain ⟨d',hg,hd,hk,hm⟩:=LK (K:=K) (al:=al) (o:=o) (by rw [h]; intro e; cases e)
 rw [hm] at h
 have oth:∀ t,t≠d→ZT n (.const d v al) t=ZT n al t:=fun t ht=>by
  simp only [ZT,ZaC ht]
  rfl
 rcases LL (al:=al) (d:=d') (op:=o.op) (by rw [h]; intro e; cases e) with ⟨u,hop,h1⟩ | ⟨t,hop,h1⟩
 ·rw [h1] at h
  cases h
  refine ⟨hg,hd,hk,⟨_,hop,?_⟩,oth,fun h=>h⟩
  simp only [ZT,Uj]
  rfl
 ·rw [h1] at h
  rcases KH n d' t al with ⟨u,h2,h3⟩ | ⟨j,h2,h3,h4⟩ | ⟨u,h2,h3⟩
  ·rw [h2] at h; cases h
  ·rw [h2] at h; cases h
  ·rw [h2] at h
   cases h
   refine ⟨hg,hd,hk,⟨_,hop,?_⟩,oth,fun h=>h⟩
   simp only [ZT,Uj]
   exact h3.symm
theorem Zc4 {K:ZF} {al:Al} {o:Oper} {d u:Tmp} (n:Nat) (h:DD K al o = .same d u):MvF K n al o d (.same d u al):=by
 obtain ⟨d',hg,hd,hk,hm⟩:=LK (K:=K) (al:=al) (o:=o) (by rw [h]; intro e; cases e)
 rw [hm] at h
 have oth:∀ t,t≠d→ZT n (.same d u al) t=ZT n al t:=fun t ht=>by
  simp only [ZT,ZaC ht]
  rfl
 rcases LL (al:=al) (d:=d') (op:=o.op) (by rw [h]; intro e; cases e) with ⟨u,hop,h1⟩ | ⟨t,hop,h1⟩
 ·rw [h1] at h
  cases h
 ·rw [h1] at h
  rcases KH n d' t al with ⟨u,h2,h3⟩ | ⟨j,h2,h3,h4⟩ | ⟨u,h2,h3⟩
  ·rw [h2] at h
   cases h
   refine ⟨hg,hd,hk,⟨_,hop,?_⟩,oth,fun h=>h⟩
   simp only [ZT,Uj]
   exact h3.symm
  ·rw [h2] at h; cases h
  ·rw [h2] at h; cases h
theorem Zfq {K:ZF} {al:Al} {o:Oper} {d:Tmp} {i:Nat} (n:Nat) (h:DD K al o = .loc d i) (hl:Ww n al):MvF K n al o d (.loc d i al):=by
 obtain ⟨d',hg,hd,hk,hm⟩:=LK (K:=K) (al:=al) (o:=o) (by rw [h]; intro e; cases e)
 rw [hm] at h
 have oth:∀ t,t≠d→ZT n (.loc d i al) t=ZT n al t:=fun t ht=>by
  simp only [ZT,ZaC ht]
  rfl
 rcases LL (al:=al) (d:=d') (op:=o.op) (by rw [h]; intro e; cases e) with ⟨u,hop,h1⟩ | ⟨t,hop,h1⟩
 ·rw [h1] at h
  cases h
 ·rw [h1] at h
  rcases KH n d' t al with ⟨u,h2,h3⟩ | ⟨j,h2,h3,h4⟩ | ⟨u,h2,h3⟩
  ·rw [h2] at h; cases h
  ·rw [h2] at h
   cases h
   refine ⟨hg,hd,hk,⟨_,hop,?_⟩,oth,fun h=>⟨h4 h,h⟩⟩
   simp only [ZT,Uj]
   exact h3.symm
  ·rw [h2] at h; cases h
theorem WV {call:Zu} (hcall:ZZ P call) {K:ZF} {ops:Array Oper} {e0:Env} {Q:Exit→Act→World→Prop}:∀ (rest:List Oper) (i:Nat),ops.toList.drop i=rest →
  ∀ (n:Nat) (al:Al) (l:List Zc) (e e':Env) (s s':St) (x:Ex) (a:Act) (w:World) (r:Rho),Inv K r s w l e0 e n al a →
  Vr e0 (Js P call K ops rest n al) l e s = .ok x e' s' →
  (∀ q a' w',Ext r s w q s' w'→Qk K q e' a'→x = .normal→Q .normal a' w')→wpOps P ops Q (List.range' i rest.length) a w
 | [],i,_,n,al,l,e,e',s,s',x,a,w,r,inv,h,hQ=>by
  cases h
  exact hQ r a w (Ext.refl inv.rel) inv.env rfl
 | o::rest,i,hd,n,al,l,e,e',s,s',x,a,w,r,inv,h,hQ=>by
  have ho:ops[i]? = some o:=by
   rw [← Array.getElem?_toList,← List.head?_drop,hd]
   rfl
  have hd':ops.toList.drop (i+1)=rest:=by rw [← List.drop_drop,hd]; rfl
  rw [List.length_cons,List.range'_succ]
  have movd:∀ (d:Tmp) (al':Al),MvF K n al o d al'→Vr e0 (sel (Qr K o) (Js P call K ops rest n al') (.cons Uf .nil)) l e s = .ok x e' s' →
    wpOps P ops Q (i::List.range' (i+1) rest.length) a w:=by
   intro d al' hf hrun
   cases hdi:Qr K o
   ·rw [hdi] at hrun; cases hrun
   ·rw [hdi] at hrun
    have hdn:Nat.blt d K.n=true:=by
     unfold Qr at hdi
     rw [hf.dst] at hdi
     exact hdi
    obtain ⟨y,hop,hty⟩:=hf.op
    have hcx:=inv.cx o.op y (by rw [hop]; simp [Op.operands])
    have inv':=inv.move (al':=al') (u:=a.eval y) hf.Zi hdn hf.other (fun v hv=>hcx v (by rw [← hty]; exact hv)) (hf.lts inv.lts)
    have ih:=WV hcall (Q:=Q) rest (i+1) hd' n al' l e e' s s' x _ w r inv' hrun hQ
    refine Vu ho (fun _ => ?_) fun hw => ?_
    ·unfold Oper.wp execOp
     rw [hop]
     show wpOps P ops Q _ (a.put o.dst (a.eval y)) w
     rw [hf.dst]
     exact ih
    ·unfold Region.wanted at hw
     rw [hf.guard] at hw
     cases hw
  unfold Js at h
  split at h
  ·rename_i hmv
   unfold VW at h
   cases hdi:Qr K o
   ·rw [hdi] at h; cases h
   ·rw [hdi] at h
    obtain ⟨v,s1,h1,h2⟩:=ZaB h
    have hwt:=Vt (co:=Q7 n al) (ops:=ops) (o:=o) fun t _=>inv.ali t
    rcases h1 with ⟨h3,h4⟩ | ⟨h3,rfl,rfl⟩
    ·refine Vu ho (fun _ => ?_) fun hw => ?_
     ·refine (Rt hcall h4).ok inv.rel (inv.cx _) _ _ fun q u w1 hx hv => ?_
      exact WV hcall rest (i+1) hd' (n+1) _ _ _ e' s1 s' x _ w1 q (inv.step hdi hv hx) h2 fun q' a' w' hx'=>hQ q' a' w' (hx.trans hx')
     ·rw [hwt.1 h3] at hw
      cases hw
    ·refine Vu ho (fun hw => ?_) fun _ => ?_
     ·rw [hwt.2 h3] at hw
      cases hw
     ·exact WV hcall rest (i+1) hd' (n+1) _ _ _ e' s1 s' x _ w r (inv.step hdi (.tuple .nil) (Ext.refl inv.rel)) h2 hQ
  ·rename_i d y hmv
   exact movd d _ (ZaD n hmv) h
  ·rename_i d y hmv
   exact movd d _ (Zc4 n hmv) h
  ·rename_i d y hmv
   exact movd d _ (Zfq n hmv inv.lts) h
theorem Uk {call:Zu} (hcall:ZZ P call) {K:ZF} {ops:Array Oper} {id:Nat} {e e':Env} {s s':St} {x:Ex} {a:Act} {w:World} {r:Rho} (hr:Rel r s w) (he:Qk K r e a)
  (h:DE (Js P call K ops ops.toList 0 .nil) e s = .ok x e' s') {Q:Exit→Act→World→Prop} (hQ:∀ q a' w',Ext r s w q s' w'→Qk K q e' a'→x = .normal→Q .normal a' w') :
  (Code.region id ops false).wp P Q a w:=by
 refine wp_region ?_
 have:=WV hcall (Q:=Q) ops.toList 0 rfl 0 .nil [] e e' s s' x a w r (Inv.start hr he) h hQ
 rw [List.range_eq_range',← Array.length_toList]
 exact this
end Go.Proofs.YtheflbaejhlboaaGreatDoor.Ev
namespace Go.Proofs.YtheflbaejhlboaaGreatDoor.Ev
open Go
variable [Sig] {P:Program}
def DL:Ex→Exit
 | .normal => .normal
 | .exit i => .exit i
 | .goto l => .goto l
 | .ret => .ret
def Qz (P:Program) (K:ZF) (c:Code) (f:Env→St→Res):Prop :=
 ∀ (e:Env) (s:St) (x:Ex) (e':Env) (s':St),f e s = .ok x e' s'→∀ (r:Rho) (w:World) (a:Act) (Q:Exit→Act→World→Prop),Rel r s w→Qk K r e a →
  (∀ q a' w',Ext r s w q s' w'→Qk K q e' a'→Q (DL x) a' w')→c.wp P Q a w
def Zhg (P:Program) (K:ZF) (R:Exit→Act→World→Prop) (r:Rho) (s:St) (w:World) (y:Res):Prop :=
 ∀ (x:Ex) (e':Env) (s':St),y = .ok x e' s'→∀ q a' w',Ext r s w q s' w'→Qk K q e' a'→R (DL x) a' w'
theorem Qz.run {K:ZF} {c:Code} {f:Env→St→Res} (h:Qz P K c f) {e:Env} {s:St} {r:Rho} {w:World} {a:Act} {Q:Exit→Act→World→Prop} (hr:Rel r s w) (he:Qk K r e a)
  (hb:f e s ≠ .bad) (hQ:Zhg P K Q r s w (f e s)):c.wp P Q a w:=by
 cases hf:f e s with
 | bad=>exact absurd hf hb
 | ok x e1 s1=>exact h e s x e1 s1 hf r w a Q hr he fun q a' w' hx he'=>hQ x e1 s1 hf q a' w' hx he'
theorem GO {k:Env→St→Res} {y:Res} {x:Ex} {e':Env} {s':St} (h:GK k y = .ok x e' s'):∃ x1 e1 s1,y = .ok x1 e1 s1∧((x1 = .normal∧k e1 s1 = .ok x e' s')∨(x1 ≠ .normal∧x=x1∧e'=e1∧s'=s1)):=by
 cases y with
 | bad=>cases h
 | ok x1 e1 s1 =>
  refine ⟨x1,e1,s1,rfl,?_⟩
  cases x1 with
  | normal=>exact .inl ⟨rfl,h⟩
  | exit i=>cases h; exact .inr ⟨fun e=>(by cases e),rfl,rfl,rfl⟩
  | goto l=>cases h; exact .inr ⟨fun e=>(by cases e),rfl,rfl,rfl⟩
  | ret=>cases h; exact .inr ⟨fun e=>(by cases e),rfl,rfl,rfl⟩
theorem Zfr {K:ZF} {c d:Code} {f g:Env→St→Res} (hf:Qz P K c f) (hg:Qz P K d g):Qz P K (.seq c d) (fun e s=>GK g (f e s)):=by
 intro e s x e' s' h r w a Q hr he hQ
 obtain ⟨x1,e1,s1,h1,h2⟩:=GO h
 refine wp_seq (hf e s x1 e1 s1 h1 r w a _ hr he fun q a1 w1 hx he1 => ?_)
 rcases h2 with ⟨rfl,h2⟩ | ⟨hn,rfl,rfl,rfl⟩
 ·exact hg e1 s1 x e' s' h2 q w1 a1 Q hx.rel he1 fun q' a' w' hx' he'=>hQ q' a' w' (hx.trans hx') he'
 ·have:=hQ q a1 w1 hx he1
  cases x with
  | normal=>exact absurd rfl hn
  | exit i=>exact this
  | goto l=>exact this
  | ret=>exact this
theorem Ul {i:Nat} {y:Res} {x:Ex} {e':Env} {s':St} (h:TH i y = .ok x e' s'):∃ x1,y = .ok x1 e' s'∧((x1 = .exit i∧x = .normal)∨(x1 ≠ .exit i∧x=x1)):=by
 cases y with
 | bad=>cases h
 | ok x1 e1 s1 =>
  cases x1 with
  | normal=>cases h; exact ⟨_,rfl,.inr ⟨fun e=>(by cases e),rfl⟩⟩
  | exit j =>
   have h:sel (Nat.beq i j) (Res.ok .normal e1 s1) (.ok (.exit j) e1 s1) = .ok x e' s':=h
   cases hb:Nat.beq i j
   ·rw [hb] at h
    cases h
    exact ⟨_,rfl,.inr ⟨fun e=>(by cases e; exact Je hb rfl),rfl⟩⟩
   ·rw [hb] at h
    cases h
    have:=ZD hb
    subst this
    exact ⟨_,rfl,.inl ⟨rfl,rfl⟩⟩
  | goto l=>cases h; exact ⟨_,rfl,.inr ⟨fun e=>(by cases e),rfl⟩⟩
  | ret=>cases h; exact ⟨_,rfl,.inr ⟨fun e=>(by cases e),rfl⟩⟩
theorem ZaE {K:ZF} {i:Nat} {c:Code} {f:Env→St→Res} (hf:Qz P K c f):Qz P K (.block i c) (fun e s=>TH i (f e s)):=by
 intro e s x e' s' h r w a Q hr he hQ
 obtain ⟨x1,h1,h2⟩:=Ul h
 refine wp_block (hf e s x1 e' s' h1 r w a _ hr he fun q a1 w1 hx he1 => ?_)
 have:=hQ q a1 w1 hx he1
 rcases h2 with ⟨rfl,rfl⟩ | ⟨hn,rfl⟩
 ·show (if i=i then Q .normal a1 w1 else Q (.exit i) a1 w1)
  rw [if_pos rfl]
  exact this
 ·cases x with
  | normal=>exact this
  | exit j =>
   show (if j=i then Q .normal a1 w1 else Q (.exit j) a1 w1)
   rw [if_neg fun e=>hn (by rw [e])]
   exact this
  | goto l=>exact this
  | ret=>exact this
theorem Zc5 {K:ZF} {x:Operand} {c d:Code} {f g:Env→St→Res} (hf:Qz P K c f) (hg:Qz P K d g):Qz P K (.cond x c d) (fun e s=>Zau f g e s (Zn [] e (Q7 0 .nil x))):=by
 intro e s y e' s' h r w a Q hr he hQ
 have h:Zau f g e s (Zn [] e (Q7 0 .nil x)) = .ok y e' s':=h
 cases hv:Zn [] e (Q7 0 .nil x) with
 | bad=>rw [hv] at h; cases h
 | ok v =>
  rw [hv] at h
  have h:Zeo f g e s (X0 v) = .ok y e' s':=h
  have hc:=(Inv.start hr he).cx (.move x) x (by simp [Op.operands]) v hv
  cases hb:X0 v with
  | none=>rw [hb] at h; cases h
  | some b =>
   have:=Pm hb
   subst this
   generalize hg2:a.eval x=u at hc
   cases hc
   rw [hb] at h
   cases b
   ·exact wp_cond_false hg2 (hg e s y e' s' h r w a Q hr he hQ)
   ·exact wp_cond_true hg2 (hf e s y e' s' h r w a Q hr he hQ)
end Go.Proofs.YtheflbaejhlboaaGreatDoor.Ev
namespace Go.Proofs.YtheflbaejhlboaaGreatDoor.Ev
open Go
variable [Sig] {P:Program}
theorem Zc6 {K:ZF} {c:Code} {f:Env→St→Res} (hf:Qz P K c f) (n:Nat):Qz P K (.loop c) (Zav f n):=by
 intro e s x e' s' h r w a Q hr he hQ
 refine wp_loop_rounds n ?_
 induction n generalizing e s r w a with
 | zero=>cases h
 | succ n ih =>
  have h:GK (Zav f n) (f e s) = .ok x e' s':=h
  obtain ⟨x1,e1,s1,h1,h2⟩:=GO h
  rw [rounds_succ]
  refine hf e s x1 e1 s1 h1 r w a _ hr he fun q a1 w1 hx he1 => ?_
  rcases h2 with ⟨rfl,h2⟩ | ⟨hn,rfl,rfl,rfl⟩
  ·exact ih e1 s1 h2 q w1 a1 hx.rel he1 fun q' a' w' hx' he'=>hQ q' a' w' (hx.trans hx') he'
  ·have:=hQ q a1 w1 hx he1
   cases x with
   | normal=>exact absurd rfl hn
   | exit i=>exact this
   | goto l=>exact this
   | ret=>exact this
def Vv (P:Program) (body c:Code) (Q:Exit→Act→World→Prop) (a:Act) (w:World):Prop :=
 ∀ (b:Frame) (k:List Item) (cs:List Frame),∃ e a' w',Q e a' w'∧Arrives P (lone (b.at a (.code c :: .inScope body::k)) cs w) b k cs e a' w'
def TK (P:Program) (body:Code) (Q:Exit→Act→World→Prop):Exit→Act→World→Prop
 | .goto l,a,w=>match findLabel body l with
  | some rest=>Vv P body rest Q a w
  | none=>Q (.goto l) a w
 | e,a,w=>Q e a w
theorem LN {body c:Code} {Q:Exit→Act→World→Prop} {a:Act} {w:World} (h:c.wp P (TK P body Q) a w):Vv P body c Q a w:=by
 intro b k cs
 obtain ⟨e,a₁,w₁,hq,harr⟩:=h b (.inScope body::k) cs
 cases e with
 | normal=>exact ⟨.normal,a₁,w₁,hq,Steps.trans harr (.one step_inScope)⟩
 | exit id=>exact ⟨.exit id,a₁,w₁,hq,fun k' hk=>harr k' (by simp [exitTo,hk])⟩
 | goto l =>
  cases hl:findLabel body l with
  | some rest =>
   simp only [TK,hl] at hq
   obtain ⟨e₂,a₂,w₂,hq₂,harr₂⟩:=hq b k cs
   exact ⟨e₂,a₂,w₂,hq₂,.of_steps (harr (.code rest :: .inScope body::k) (by simp [gotoIn,hl])) harr₂⟩
  | none =>
   simp only [TK,hl] at hq
   exact ⟨.goto l,a₁,w₁,hq,fun k' hk=>harr k' (by simp [gotoIn,hl,hk])⟩
 | ret=>exact ⟨.ret,a₁,w₁,hq,harr⟩
 | panic ch=>exact ⟨.panic ch,a₁,w₁,hq,harr⟩
 | outgrown=>exact ⟨.outgrown,a₁,w₁,hq,harr⟩
theorem GP {body:Code} {Q:Exit→Act→World→Prop} {a:Act} {w:World} (h:Vv P body body Q a w):(Code.scope body).wp P Q a w:=by
 intro b k cs
 obtain ⟨e,a',w',hq,harr⟩:=h b k cs
 exact ⟨e,a',w',hq,.of_steps (.one step_scope) harr⟩
theorem Pn {K:ZF} {body:Code} {ex:CC→Env→St→Res} {rest:Nat→Option CC}
  (hrest:∀ l,match findLabel body l with
   | some c=>∃ cc,rest l=some cc∧Qz P K c (ex cc)
   | none=>rest l=none) :
  ∀ (n:Nat) (c:Code) (f:Env→St→Res),Qz P K c f→∀ (e:Env) (s:St) (x:Ex) (e':Env) (s':St),LH ex rest n (f e s) = .ok x e' s' →
   ∀ (r:Rho) (w:World) (a:Act) (Q:Exit→Act→World→Prop),Rel r s w→Qk K r e a→(∀ q a' w',Ext r s w q s' w'→Qk K q e' a'→Q (DL x) a' w')→Vv P body c Q a w
 | 0,c,f,hf,e,s,x,e',s',h,r,w,a,Q,hr,he,hQ=>by cases h
 | n+1,c,f,hf,e,s,x,e',s',h,r,w,a,Q,hr,he,hQ=>by
  have h:C6 ex rest (LH ex rest n) (f e s) = .ok x e' s':=h
  refine LN ?_
  cases hy:f e s with
  | bad=>rw [hy] at h; cases h
  | ok x1 e1 s1 =>
   rw [hy] at h
   refine hf e s x1 e1 s1 hy r w a _ hr he fun q a1 w1 hx he1 => ?_
   cases x1 with
   | normal=>cases h; exact hQ q a1 w1 hx he1
   | exit i=>cases h; exact hQ q a1 w1 hx he1
   | ret=>cases h; exact hQ q a1 w1 hx he1
   | goto l =>
    have h:Zaw ex (LH ex rest n) l e1 s1 (rest l) = .ok x e' s':=h
    have hl:=hrest l
    cases hfl:findLabel body l with
    | none =>
     rw [hfl] at hl
     have hl:rest l=none:=hl
     rw [hl] at h
     cases h
     show (match findLabel body l with | some rest=>Vv P body rest Q a1 w1 | none=>Q (.goto l) a1 w1)
     rw [hfl]
     exact hQ q a1 w1 hx he1
    | some c1 =>
     rw [hfl] at hl
     obtain ⟨cc1,hl,hc1⟩:=hl
     rw [hl] at h
     show (match findLabel body l with | some rest=>Vv P body rest Q a1 w1 | none=>Q (.goto l) a1 w1)
     rw [hfl]
     exact Pn hrest n c1 (ex cc1) hc1 e1 s1 x e' s' h q w1 a1 Q hx.rel he1 fun q' a' w' hx' he'=>hQ q' a' w' (hx.trans hx') he'
def Qq (T:Nat→Array Oper→Bool→Prop):Code→Prop
 | .region id ops d=>T id ops d
 | .seq a b=>Qq T a∧Qq T b
 | .cond _ a b=>Qq T a∧Qq T b
 | .block _ b=>Qq T b
 | .loop b=>Qq T b
 | .scope b=>Qq T b
 | _=>True
theorem Qq.label {T:Nat→Array Oper→Bool→Prop} {l:Nat}:∀ {c rest:Code},Qq T c→findLabel c l=some rest→Qq T rest
 | .seq a b,rest,h,hf=>by
  simp only [findLabel] at hf
  split at hf
  ·rename_i ra hra
   cases hf
   exact ⟨Qq.label h.1 hra,h.2⟩
  ·exact Qq.label h.2 hf
 | .label l',rest,h,hf=>by
  simp only [findLabel] at hf
  split at hf
  ·cases hf; trivial
  ·cases hf
 | .skip,_,_,hf=>by cases hf
 | .region _ _ _,_,_,hf=>by cases hf
 | .cond _ _ _,_,_,hf=>by cases hf
 | .block _ _,_,_,hf=>by cases hf
 | .loop _,_,_,hf=>by cases hf
 | .rangeFunc _ _ _ _,_,_,hf=>by cases hf
 | .exit _,_,_,hf=>by cases hf
 | .scope _,_,_,hf=>by cases hf
 | .goto _,_,_,hf=>by cases hf
 | .ret,_,_,hf=>by cases hf
 | .refuse _,_,_,hf=>by cases hf
theorem Qq.all {T:Nat→Array Oper→Bool→Prop} (h:∀ id ops d,T id ops d):∀ c,Qq T c
 | .region id ops d=>h id ops d
 | .seq a b=>⟨Qq.all h a,Qq.all h b⟩
 | .cond _ a b=>⟨Qq.all h a,Qq.all h b⟩
 | .block _ b=>Qq.all h b
 | .loop b=>Qq.all h b
 | .scope b=>Qq.all h b
 | .skip=>trivial
 | .label _=>trivial
 | .rangeFunc _ _ _ _=>trivial
 | .exit _=>trivial
 | .goto _=>trivial
 | .ret=>trivial
 | .refuse _=>trivial
def Po (P:Program) (call:Zu) (K:ZF):Prop:=∀ id ops,Qz P K (.region id ops true) (Uh P call K ops (QH P ops ops.toList (Zx ops.toList []))).run
def Um (P:Program) (K:ZF) (kn:XL) (id:Nat) (ops:Array Oper) (d:Bool):Prop:=∀ g,kn id=some g→Qz P K (.region id ops d) g.run
theorem Sl {call:Zu} (hcall:ZZ P call) {K:ZF} (hdraw:Po P call K) {kn:XL} {fuel:Nat}:∀ (n:Nat) (c:Code),Qq (Um P K kn) c →
  Qz P K c (M6 P call K kn fuel n (cc P call K kn c))
 | 0,c,_=>fun e s x e' s' h=>by cases h
 | n+1,c,hreg=>by
  induction c with
  | skip=>intro e s x e' s' h r w a Q hr he hQ; cases h; exact wp_skip (hQ r a w (Ext.refl hr) he)
  | label l=>intro e s x e' s' h r w a Q hr he hQ; cases h; exact wp_label (hQ r a w (Ext.refl hr) he)
  | exit i=>intro e s x e' s' h r w a Q hr he hQ; cases h; exact wp_exit (hQ r a w (Ext.refl hr) he)
  | goto l=>intro e s x e' s' h r w a Q hr he hQ; cases h; exact wp_goto (hQ r a w (Ext.refl hr) he)
  | ret=>intro e s x e' s' h r w a Q hr he hQ; cases h; exact wp_ret (hQ r a w (Ext.refl hr) he)
  | rangeFunc f p a b=>intro e s x e' s' h; cases h
  | refuse y=>intro e s x e' s' h; cases h
  | region id ops d =>
   have hk:Um P K kn id ops d:=hreg
   have hc:cc P call K kn (.region id ops d)=Zen P call K ops d (kn id):=rfl
   rw [hc]
   cases hg:kn id with
   | some g=>exact hk g hg
   | none =>
    cases d
    ·intro e s x e' s' h r w a Q hr he hQ
     refine Uk hcall hr he (h:DE (Js P call K ops ops.toList 0 .nil) e s = .ok x e' s') fun q a' w' hx he' hn => ?_
     subst hn
     exact hQ q a' w' hx he'
    ·exact hdraw id ops
  | seq a b iha ihb=>exact Zfr (iha hreg.1) (ihb hreg.2)
  | cond x a b iha ihb=>exact Zc5 (iha hreg.1) (ihb hreg.2)
  | block i b ih=>exact ZaE (ih hreg)
  | loop b ih=>exact Zc6 (ih hreg) fuel
  | scope b ih =>
   intro e s x e' s' h r w a Q hr he hQ
   refine GP (Pn (ex:=M6 P call K kn fuel n) (rest:=DG P call K kn b) (fun l => ?_) fuel b _ (ih hreg) e s x e' s' h r w a Q hr he hQ)
   unfold DG
   cases hl:findLabel b l with
   | none=>rfl
   | some c=>exact ⟨_,rfl,Sl hcall hdraw n c (Qq.label (c:=b) (show Qq _ b from hreg) hl)⟩
end Go.Proofs.YtheflbaejhlboaaGreatDoor.Ev
namespace Go.Proofs.YtheflbaejhlboaaGreatDoor.Ev
open Go
variable [Sig] {P:Program}
theorem Pp {K:ZF} {t:Tmp} {v:Zc}:∀ (l:List Zc) (i:Nat) (e:Env),(Km K i e l).get t=some v→(K.Zi t=true∧i≤t∧l[t-i]? = some v)∨e.get t=some v
 | [],i,e,h => .inr h
 | x::l,i,e,h=>by
  rcases Pp l (i+1) _ h with ⟨h1,h2,h3⟩ | h1
  ·refine .inl ⟨h1,Nat.le_of_succ_le h2,?_⟩
   have:t-i=(t-(i+1))+1:=by rw [Nat.sub_add_eq,Nat.sub_add_cancel (Nat.sub_pos_of_lt h2)]
   rw [this]
   exact h3
  ·cases hk:K.Zi i
   ·rw [hk] at h1; exact .inr h1
   ·rw [hk] at h1
    have h1:(e.set i (some x)).get t=some v:=h1
    rw [Jo] at h1
    by_cases hi:i=t
    ·subst hi
     rw [if_pos rfl] at h1
     cases h1
     exact .inl ⟨hk,Nat.le_refl _,by simp⟩
    ·rw [if_neg hi] at h1
     exact .inr h1
theorem Pq {fn:Func} {Zi:YW} {r:Rho} {args:List Zc} {us:List Value} (h:VRs r args us) :
  Qk ⟨fn.ntmps,Zi⟩ r (Km ⟨fn.ntmps,Zi⟩ 0 .lf args) { tmps:=⟨us⟩++Array.replicate (fn.ntmps-(⟨us⟩:Array Value).size) undef,defers:=[] }:=by
 refine ⟨fun t v hv => ?_,by simp; omega,rfl⟩
 rcases Pp args 0 .lf hv with ⟨h1,_,h2⟩ | h1
 ·refine ⟨h1,?_⟩
  obtain ⟨u,h3,h4⟩:=h.get h2
  have ht:t<us.length:=(List.getElem?_eq_some_iff.1 h3).1
  have:(⟨us⟩++Array.replicate (fn.ntmps-(⟨us⟩:Array Value).size) undef:Array Value)[t]? = some u:=by
   rw [Array.getElem?_append_left (by simpa using ht)]
   simpa using h3
  rw [Array.getD_eq_getD_getElem?,this]
  exact h4
 ·rw [Ye] at h1; cases h1
def Yi (a:Act):ResultVar→Sem Value
 | .tmp t=>pure (a.tmps.getD t undef)
 | .cell c t=>do loadVar t (← asAddr (a.tmps.getD c undef))
theorem DM (fn:Func) (a:Act):results fn a.tmps=(do let vs ← fn.results.mapM (Yi a); pure (if h:vs.size=1 then vs[0] else .tuple vs)):=by
 have key:∀ f:ResultVar→Sem Value,(∀ x,f x=Yi a x)→(do let vs ← fn.results.mapM f; pure (if h:vs.size=1 then vs[0] else .tuple vs):Sem Value) =
   (do let vs ← fn.results.mapM (Yi a); pure (if h:vs.size=1 then vs[0] else .tuple vs)):=fun f hf=>by rw [funext hf]
 unfold results
 exact key _ fun x=>by cases x <;> rfl
theorem Uo {K:ZF} {r:Rho} {s:St} {w:World} {e:Env} {a:Act} (hr:Rel r s w) (he:Qk K r e a) {x:ResultVar} {v:Zc} (h:LI e s (ZcY P x) = .ok v) :
  ZO P r w (Yi a x) v:=by
 cases x with
 | tmp t=>exact ⟨_,rfl,(he.env t v (Ls h)).2⟩
 | cell c t =>
  have h:Zax s (Jr P t) (e.get c) = .ok v:=h
  unfold Zax at h
  split at h
  ·rename_i p hp
   have hv:=(he.env c p hp).2
   obtain ⟨u,h1,h2⟩:=Gv (t:=t) hr.toRelB h hv
   refine ⟨u,?_,h2⟩
   unfold MN at h
   split at h
   ·generalize hg:a.tmps.getD c undef=g at hv h1
    cases hv
    simp only [Instr.loadAt,Instr.sureAddr,Sem.run_bind,Sem.run_pure,Result.andThen_ok] at h1
    simp only [Yi,hg,asAddr,Sem.run_bind,Sem.run_pure,Result.andThen_ok,h1]
   ·cases h
  ·cases h
theorem M8 {K:ZF} {r:Rho} {s:St} {w:World} {e:Env} {a:Act} (hr:Rel r s w) (he:Qk K r e a):∀ (l:List ResultVar) {vs:List Zc},KZ e s (Xo P l)=some vs →
  ∃ us,(l.mapM (Yi a)).run P w = .ok us w∧VRs r vs us
 | [],vs,h=>by cases h; exact ⟨[],rfl,.nil⟩
 | x::l,vs,h=>by
  have h:Cv (LI e s (ZcY P x)) (KZ e s (Xo P l))=some vs:=h
  cases h1:LI e s (ZcY P x) with
  | bad=>rw [h1] at h; cases h
  | ok v =>
   rw [h1] at h
   cases h2:KZ e s (Xo P l) with
   | none=>rw [h2] at h; cases h
   | some vs' =>
    rw [h2] at h
    cases h
    obtain ⟨u,h3,h4⟩:=Uo hr he h1
    obtain ⟨us,h5,h6⟩:=M8 hr he l h2
    refine ⟨u::us,?_,.cons h4 h6⟩
    rw [List.mapM_cons]
    simp only [Sem.run_bind,h3,Result.andThen_ok,h5,Sem.run_pure]
theorem Yj {K:ZF} {r:Rho} {s:St} {w:World} {e:Env} {a:Act} (hr:Rel r s w) (he:Qk K r e a) {fn:Func} {v:Zc} (h:ZcZ (KZ e s (Xo P fn.results.toList)) = .ok v) :
  ∃ u,(results fn a.tmps).run P w = .ok u w∧VR r v u:=by
 cases h1:KZ e s (Xo P fn.results.toList) with
 | none=>rw [h1] at h; cases h
 | some vs =>
  rw [h1] at h
  obtain ⟨us,h2,h3⟩:=M8 hr he fn.results.toList h1
  have hm:(fn.results.mapM (Yi a)).run P w = .ok ⟨us⟩ w:=by
   rw [Array.mapM_eq_mapM_toList]
   simp only [Sem.run_map,h2]
   rfl
  have hres:(results fn a.tmps).run P w = .ok (if h:(⟨us⟩:Array Value).size=1 then (⟨us⟩:Array Value)[0] else .tuple ⟨us⟩) w:=by
   rw [DM]
   simp only [Sem.run_bind,hm,Result.andThen_ok,Sem.run_pure]
  refine ⟨_,hres,?_⟩
  cases h3 with
  | nil =>
   cases h
   exact .tuple .nil
  | cons hv ht =>
   cases ht with
   | nil=>cases h; exact hv
   | cons hv2 ht2 =>
    cases h
    exact .tuple (.cons hv (.cons hv2 ht2))
structure J9 (P:Program) (B:VO):Prop where
 fn:∀ f fn,B.fn f=some fn→P.funcs[f]? = some fn∧(fn.name== "runtime.NumGoroutine")=false
 reg:∀ f fn b,B.fn f=some fn→fn.body=some b→Qq (Um P ⟨fn.ntmps,B.Zi f⟩ (B.reg f)) b
 orc:∀ f g,B.orc f=some g→∀ (args:List Zc) (s:St) (v:Zc) (s':St),g.run args s = .ok v s'→∀ (r:Rho) (w:World) (us:List Value),Rel r s w→VRs r args us →
  Xt P f ⟨us⟩ w fun u w'=>∃ q,Ext r s w q s' w'∧VR q v u
theorem Pr {l:List RV} {y:Res} {v:Zc} {s':St} (h:Y0 l y = .ok v s'):∃ x e,y = .ok x e s'∧(x = .normal∨x = .ret)∧ZcZ (KZ e s' l) = .ok v:=by
 unfold Y0 at h
 split at h
 ·obtain ⟨h1,rfl⟩:=ZY h
  exact ⟨_,_,rfl,.inl rfl,h1⟩
 ·obtain ⟨h1,rfl⟩:=ZY h
  exact ⟨_,_,rfl,.inr rfl,h1⟩
 ·cases h
theorem GQ {B:VO} (hB:J9 P B) {call:Zu} (hcall:ZZ P call) (hdraw:∀ K,Po P call K) (fuel:Nat) :
  ZZ P (fun f args s=>Pg P B call fuel f args s (B.orc f)):=by
 intro f args s v s' h r w us hr hv
 have h:Pg P B call fuel f args s (B.orc f) = .ok v s':=h
 cases ho:B.orc f with
 | some g =>
  rw [ho] at h
  exact hB.orc f g ho args s v s' h r w us hr hv
 | none =>
  rw [ho] at h
  have h:TI P call (B.reg f) fuel args s (Zc0 P call (B.Zi f) (B.reg f) (B.fn f)) = .ok v s':=h
  cases hf:B.fn f with
  | none=>rw [hf] at h; cases h
  | some fn =>
   rw [hf] at h
   cases hb:fn.body with
   | none =>
    have h:TI P call (B.reg f) fuel args s (fcB P call (B.Zi f) (B.reg f) fn fn.body) = .ok v s':=h
    rw [hb] at h
    cases h
   | some b =>
    have h:TI P call (B.reg f) fuel args s (fcB P call (B.Zi f) (B.reg f) fn fn.body) = .ok v s':=h
    rw [hb] at h
    have h:Y0 (Xo P fn.results.toList) (M6 P call ⟨fn.ntmps,B.Zi f⟩ (B.reg f) fuel fuel (cc P call ⟨fn.ntmps,B.Zi f⟩ (B.reg f) b) (Km ⟨fn.ntmps,B.Zi f⟩ 0 .lf args) s) = .ok v s':=h
    obtain ⟨x,e,h1,h2,h3⟩:=Pr h
    obtain ⟨hfn,hname⟩:=hB.fn f fn hf
    refine .inr ⟨?_,?_⟩
    ·have hname':fn.name≠ "runtime.NumGoroutine":=by simpa using hname
     simp [callFunc,hfn,hname',hb]
    ·refine calls_of_wp hfn hb (Sl hcall (hdraw _) fuel b (hB.reg f fn b hf hb) _ s x e s' h1 r w _ _ hr (Pq hv) fun q a' w' hx he => ?_)
     obtain ⟨u,h4,h5⟩:=Yj hx.rel he h3
     rcases h2 with rfl | rfl
     ·exact ⟨he.defers,u,h4,u,rfl,q,hx,h5⟩
     ·exact ⟨he.defers,u,h4,u,rfl,q,hx,h5⟩
end Go.Proofs.YtheflbaejhlboaaGreatDoor.Ev
namespace Go.Proofs.YtheflbaejhlboaaGreatDoor.Ev
open Go
variable [Sig] {P:Program}
noncomputable def Q8 (K:ZF):List Oper→List Zc→Env→Env
 | o::rest,v::vs,e=>Q8 K rest vs (Kl e v (JT K o))
 | _,_,e=>e
noncomputable def XN:List DI→List St→List St
 | d::ds,s::ss=>sel d.eff (s::XN ds ss) (XN ds ss)
 | _,_=>[]
def Zep (P:Program) (call:Zu) (K:ZF) (ops:Array Oper) (e0:Env) (j:Nat) (o:Oper) (al:Al) (l:List Zc) (s1:St) (v:Zc) (s2:St):Prop :=
 Qr K o=true∧s1.next≤s2.next∧RW s2.next v=true∧((wanted l e0 (guardOf (Q7 j al) ops o) = .yes∧(comp (Q7 j al) P call o.op).run l e0 s1 = .ok v s2)∨(wanted l e0 (guardOf (Q7 j al) ops o) = .no∧v=Qu∧s2=s1))
theorem ZaF {go:List Zc→Env→St→List St→TG} {l l':List Zc} {e0 e e':Env} {s s':St} {ss ss':List St} {run:Cl} {d:Option (List Bool)} {g:Option (Z9×Bool)} {eff:Bool}
  (h:C2 go l e0 e s ss (.mk run d g) eff = .ok l' e' s' ss') :
  ∃ v s1,s.next≤s1.next∧RW s1.next v=true∧((wanted l e0 g = .yes∧run.run l e0 s = .ok v s1)∨(wanted l e0 g = .no∧v=Qu∧s1=s))∧go (v::l) (Kl e v d) s1 (sel eff (s::ss) ss) = .ok l' e' s' ss':=by
 have h:@Wt.rec (fun _=>TG) (@R.rec (fun _=>TG) (fun v s'=>sel (Bool.and (Nat.ble s.next s'.next) (RW s'.next v)) (go (v::l) (Kl e v d) s' (sel eff (s::ss) ss)) .bad) .bad (run.run l e0 s))
  (go (Qu::l) (Kl e Qu d) s (sel eff (s::ss) ss)) .bad (wanted l e0 g) = .ok l' e' s' ss':=h
 cases hw:wanted l e0 g with
 | yes =>
  rw [hw] at h
  cases hr:run.run l e0 s with
  | bad=>rw [hr] at h; cases h
  | ok v s1 =>
   rw [hr] at h
   have h:sel (Bool.and (Nat.ble s.next s1.next) (RW s1.next v)) (go (v::l) (Kl e v d) s1 (sel eff (s::ss) ss)) .bad = .ok l' e' s' ss':=h
   cases hb:Bool.and (Nat.ble s.next s1.next) (RW s1.next v)
   ·rw [hb] at h; cases h
   ·rw [hb] at h
    rw [Bool.and_eq_true] at hb
    exact ⟨v,s1,Z6 hb.1,hb.2,.inl ⟨rfl,rfl⟩,h⟩
 | no=>rw [hw] at h; exact ⟨Qu,s,Nat.le_refl _,rfl,.inr ⟨rfl,rfl,rfl⟩,h⟩
 | bad=>rw [hw] at h; cases h
theorem trace {call:Zu} {K:ZF} {ops:Array Oper} {dis:List DI} {e0:Env}:∀ (rest:List Oper) (ds:List DI) (n:Nat) (al:Al) (l L:List Zc) (e E:Env) (s S:St) (ss SS:List St),ds.length=rest.length →
  MC e0 (Qi P call K ops dis rest ds n al) l e s ss = .ok L E S SS →
  ∃ (vs:List Zc) (sts:List St),vs.length=rest.length∧sts.length=rest.length∧L=vs.reverse++l∧E=Q8 K rest vs e∧SS=(XN ds sts).reverse++ss∧(sts++[S])[0]? = some s ∧
   ∀ k o,rest[k]? = some o→∃ v s1 s2,vs[k]? = some v∧sts[k]? = some s1∧(sts++[S])[k+1]? = some s2∧Zep P call K ops e0 (n+k) o (JU rest n al k) ((vs.take k).reverse++l) s1 v s2
 | [],ds,n,al,l,L,e,E,s,S,ss,SS,hd,h=>by
  cases h
  refine ⟨[],[],rfl,rfl,rfl,rfl,?_,rfl,fun k o hk=>by simp at hk⟩
  cases ds with
  | nil=>rfl
  | cons d ds=>cases hd
 | o::rest,[],n,al,l,L,e,E,s,S,ss,SS,hd,h=>by cases hd
 | o::rest,d::ds,n,al,l,L,e,E,s,S,ss,SS,hd,h=>by
  cases hdi:Qr K o
  ·have h:C2 (MC e0 (Qi P call K ops dis rest ds (n+1) (Qa n al o))) l e0 e s ss (VW P call K ops n al o) d.eff = .ok L E S SS:=h
   unfold VW at h
   rw [hdi] at h
   cases h
  ·have h:C2 (MC e0 (Qi P call K ops dis rest ds (n+1) (Qa n al o))) l e0 e s ss (VW P call K ops n al o) d.eff = .ok L E S SS:=h
   unfold VW at h
   rw [hdi] at h
   obtain ⟨v,s1,h1,hlow,h2,h3⟩:=ZaF h
   obtain ⟨vs,sts,h4,h5,h6,h7,h8,h9,h10⟩:=trace rest ds (n+1) (Qa n al o) (v::l) L _ E s1 S _ SS (by simpa using hd) h3
   refine ⟨v::vs,s::sts,by rw [List.length_cons,List.length_cons,h4],by rw [List.length_cons,List.length_cons,h5],by rw [h6]; simp,h7,?_,rfl,fun k o' hk => ?_⟩
   ·rw [h8]
    show _=(sel d.eff (s::XN ds sts) (XN ds sts)).reverse++ss
    cases d.eff
    ·rfl
    ·show (XN ds sts).reverse++(s::ss)=(s::XN ds sts).reverse++ss
     simp
   ·cases k with
    | zero =>
     cases hk
     exact ⟨v,s,s1,rfl,rfl,h9,hdi,h1,hlow,h2⟩
    | succ k =>
     obtain ⟨v',t1,t2,g1,g2,g3,g4⟩:=h10 k o' hk
     refine ⟨v',t1,t2,g1,g2,g3,?_⟩
     have e1:n+1+k=n+(k+1):=by omega
     have e2:(vs.take k).reverse++(v::l)=((v::vs).take (k+1)).reverse++l:=by simp
     rw [e1,e2] at g4
     exact g4
end Go.Proofs.YtheflbaejhlboaaGreatDoor.Ev
namespace Go.Proofs.YtheflbaejhlboaaGreatDoor.Ev
open Go
variable [Sig] {P:Program}
theorem Ru:∀ (rest:List Oper) (n:Nat) (al:Al) (k:Nat) {o:Oper},rest[k]? = some o→JU rest n al (k+1)=Qa (n+k) (JU rest n al k) o
 | [],n,al,k,o,h=>by simp at h
 | x::rest,n,al,0,o,h=>by
  cases h
  cases rest <;> rfl
 | x::rest,n,al,k+1,o,h=>by
  have:=Ru rest (n+1) (Qa n al x) k h
  rw [show n+1+k=n+(k+1) by omega] at this
  exact this
def ZN (ops:List Oper) (j:Nat):Option Tmp:=(ops[j]?).bind (·.dst)
theorem Yk (ops:List Oper) (n:Nat) (t:Tmp):∀ (j:Nat),j≤ops.length →
  (∃ i,i<j∧ZN ops i=some t∧(∀ k,i<k→k<j→ZN ops k≠some t)∧ZT n (JU ops 0 .nil j) t = .loc (n-1-i)) ∨
  ((∀ k,k<j→ZN ops k≠some t)∧ZT n (JU ops 0 .nil j) t = .tmp (bits t))
 | 0,_ => .inr ⟨fun k h=>by omega,by cases ops <;> rfl⟩
 | j+1,h=>by
  have hj:ops[j]? = some ops[j]:=List.getElem?_eq_getElem (by omega)
  have hs:=Ru ops 0 .nil j hj
  rw [Nat.zero_add] at hs
  have hd:ZN ops j=ops[j].dst:=by unfold ZN; rw [hj]; rfl
  rw [hs]
  unfold Qa
  cases ho:ops[j].dst with
  | none =>
   rcases Yk ops n t j (by omega) with ⟨i,h1,h2,h3,h4⟩ | ⟨h1,h2⟩
   ·refine .inl ⟨i,by omega,h2,fun k hk hkj => ?_,h4⟩
    by_cases e:k=j
    ·subst e; rw [hd,ho]; exact fun h=>by cases h
    ·exact h3 k hk (by omega)
   ·refine .inr ⟨fun k hk => ?_,h2⟩
    by_cases e:k=j
    ·subst e; rw [hd,ho]; exact fun h=>by cases h
    ·exact h1 k (by omega)
  | some d =>
   by_cases htd:t=d
   ·subst htd
    refine .inl ⟨j,by omega,by rw [hd,ho],fun k hk hkj=>by omega,?_⟩
    simp only [ZT,Uj]
    rfl
   ·have hne:ZN ops j≠some t:=by rw [hd,ho]; exact fun h=>htd (by cases h; rfl)
    rcases Yk ops n t j (by omega) with ⟨i,h1,h2,h3,h4⟩ | ⟨h1,h2⟩
    ·refine .inl ⟨i,by omega,h2,fun k hk hkj => ?_,?_⟩
     ·by_cases e:k=j
      ·subst e; exact hne
      ·exact h3 k hk (by omega)
     ·simp only [ZT,ZaC htd]
      exact h4
    ·refine .inr ⟨fun k hk => ?_,?_⟩
     ·by_cases e:k=j
      ·subst e; exact hne
      ·exact h1 k (by omega)
     ·simp only [ZT,ZaC htd]
      exact h2
theorem Ps {ops:List Oper} {vs:List Zc} {e0:Env} {j:Nat} (hj:j≤ops.length) (hv:vs.length=ops.length) {t:Tmp} {v:Zc} (h:Zn (vs.take j).reverse e0 (ZT j (JU ops 0 .nil j) t) = .ok v) :
  (∃ i,i<j∧ZN ops i=some t∧(∀ k,i<k→k<j→ZN ops k≠some t)∧vs[i]? = some v)∨((∀ k,k<j→ZN ops k≠some t)∧e0.get t=some v):=by
 rcases Yk ops j t j hj with ⟨i,h1,h2,h3,h4⟩ | ⟨h1,h2⟩
 ·rw [h4] at h
  have h:=YK _ (h:Yy (j-1-i) (vs.take j).reverse = .ok v)
  refine .inl ⟨i,h1,h2,h3,?_⟩
  rw [List.getElem?_reverse (by rw [List.length_take]; omega),List.length_take,List.getElem?_take] at h
  have e1:min j vs.length-1-(j-1-i)=i:=by omega
  rw [e1,if_pos h1] at h
  exact h
 ·rw [h2] at h
  exact .inr ⟨h1,Ls h⟩
def Xp (bfs:List Nat) (j i:Nat):Prop:=∃ b,bfs[j]? = some b∧Nat.testBit b i=true
theorem C7:∀ (l:List Nat) (n:Nat),Ug l n=(l[n]?).getD 0
 | [],n=>by cases n <;> rfl
 | a::l,0=>rfl
 | a::l,n+1=>by
  show Ug l n=_
  rw [C7 l n]
  simp
theorem Pu (acc:List Nat) (i:Nat):∀ (es:List Edge),Nat.testBit (YY acc es) i=true→∃ e∈es,Region.binds .any e=true∧(e.on=i∨Xp acc e.on i)
 | [],h=>by simp [YY] at h
 | e::es,h=>by
  simp only [YY] at h
  cases hb:Region.binds .any e
  ·rw [hb] at h
   obtain ⟨e',h1,h2⟩:=Pu acc i es h
   exact ⟨e',List.mem_cons_of_mem _ h1,h2⟩
  ·rw [hb] at h
   have h:Nat.testBit (Nat.lor (Nat.lor (Nat.pow 2 e.on) (Ug acc e.on)) (YY acc es)) i=true:=h
   have h:(2^e.on|||Ug acc e.on|||YY acc es).testBit i=true:=h
   rw [Nat.testBit_or,Nat.testBit_or,Bool.or_eq_true,Bool.or_eq_true] at h
   rcases h with (h | h) | h
   ·rw [Nat.testBit_two_pow] at h
    exact ⟨e,List.mem_cons_self ..,hb,.inl (by simpa using h)⟩
   ·refine ⟨e,List.mem_cons_self ..,hb,.inr ?_⟩
    rw [C7] at h
    cases ha:acc[e.on]? with
    | none=>rw [ha] at h; simp at h
    | some b=>rw [ha] at h; exact ⟨b,ha,h⟩
   ·obtain ⟨e',h1,h2⟩:=Pu acc i es h
    exact ⟨e',List.mem_cons_of_mem _ h1,h2⟩
theorem Vx:∀ (l:List Oper) (acc:List Nat),∃ t,Zx l acc=acc++t∧t.length=l.length
 | [],acc=>⟨[],by simp [Zx],rfl⟩
 | o::l,acc=>by
  obtain ⟨t,h1,h2⟩:=Vx l (acc++[YY acc o.after.toList])
  exact ⟨YY acc o.after.toList::t,by simp only [Zx]; rw [h1]; simp,by simp [h2]⟩
theorem GR:∀ (l:List Oper) (acc:List Nat) (k:Nat) {o:Oper},l[k]? = some o→(Zx l acc)[acc.length+k]? = some (YY ((Zx l acc).take (acc.length+k)) o.after.toList)
 | [],acc,k,o,h=>by simp at h
 | x::l,acc,0,o,h=>by
  cases h
  obtain ⟨t,h1,h2⟩:=Vx l (acc++[YY acc x.after.toList])
  simp only [Zx]
  rw [h1]
  have e1:(acc++[YY acc x.after.toList]++t).take (acc.length+0)=acc:=by simp
  rw [e1,Nat.add_zero]
  simp
 | x::l,acc,k+1,o,h=>by
  have:=GR l (acc++[YY acc x.after.toList]) k (o:=o) h
  rw [List.length_append,List.length_singleton,show acc.length+1+k=acc.length+(k+1) by omega] at this
  exact this
theorem Up {bfs:List Nat} {j e i:Nat} (h:Xp (bfs.take j) e i):Xp bfs e i:=by
 obtain ⟨b,h1,h2⟩:=h
 rw [List.getElem?_take] at h1
 split at h1
 ·exact ⟨b,h1,h2⟩
 ·cases h1
def LP (bfs:List Nat) (D:Nat→Prop):Prop:=∀ j,D j→∀ i,Xp bfs j i→D i
theorem Y4 {ops:List Oper} {D:Nat→Prop} (hD:LP (Zx ops []) D) {j:Nat} {o:Oper} (ho:ops[j]? = some o) (hr:∀ e∈o.after.toList,Region.binds .any e=true→D e.on) :
  ∀ i,Xp (Zx ops []) j i→D i:=by
 intro i hi
 obtain ⟨b,h1,h2⟩:=hi
 have h3:=GR ops [] j ho
 rw [List.length_nil,Nat.zero_add,h1] at h3
 cases h3
 obtain ⟨e,h4,h5,h6⟩:=Pu _ i _ h2
 rcases h6 with rfl | h6
 ·exact hr e h4 h5
 ·exact hD _ (hr e h4 h5) i (Up h6)
theorem Pv {P:Program} {ops:Array Oper}:∀ (l:List Oper) (bfs:List Nat) (j:Nat) {o:Oper} {b:Nat},l[j]? = some o→bfs[j]? = some b→(QH P ops l bfs)[j]? = some (Pb P ops o b)
 | [],_,_,_,_,h,_=>by simp at h
 | x::l,[],j,_,_,_,h=>by simp at h
 | x::l,b::bfs,0,_,_,h,k=>by cases h; cases k; rfl
 | x::l,b::bfs,j+1,_,_,h,k=>Pv l bfs j h k
theorem K8 {P:Program} {ops:Array Oper}:∀ (l:List Oper) (bfs:List Nat),bfs.length=l.length→(QH P ops l bfs).length=l.length
 | [],_,_=>rfl
 | x::l,[],h=>by cases h
 | x::l,b::bfs,h=>by
  show (Pb P ops x b::QH P ops l bfs).length=_
  rw [List.length_cons,K8 l bfs (by simpa using h),List.length_cons]
theorem GS {y:DI}:∀ (pre:List DI) (i:Nat),Pc y pre i=true→∀ (k:Nat) (x:DI),pre[k]? = some x→J4 x y=true→Nat.testBit y.bf (i+k)=true
 | [],_,_,k,x,h,_=>by simp at h
 | z::pre,i,h,k,x,hk,hc=>by
  simp only [Pc] at h
  cases k with
  | zero =>
   cases hk
   rw [hc] at h
   have h:sel (Nat.testBit y.bf i) (Pc y pre (i+1)) false=true:=h
   rcases Ze h with ⟨h1,_⟩ | ⟨_,h1⟩
   ·rw [Nat.add_zero]; exact h1
   ·cases h1
  | succ k =>
   have h1:Pc y pre (i+1)=true:=by
    rcases Ze h with ⟨_,h1⟩ | ⟨_,h1⟩
    ·rcases Ze h1 with ⟨_,h2⟩ | ⟨_,h2⟩
     ·exact h2
     ·cases h2
    ·exact h1
   have:=GS pre (i+1) h1 k x hk hc
   rw [show i+1+k=i+(k+1) by omega] at this
   exact this
theorem XO:∀ (l pre:List DI),Vs pre l=true→∀ (j:Nat) (y:DI),l[j]? = some y→∀ (i:Nat) (x:DI),(pre++l)[i]? = some x→i<pre.length+j→J4 x y=true→Nat.testBit y.bf i=true
 | [],_,_,j,y,h,_,_,_,_,_=>by simp at h
 | z::l,pre,h,j,y,hj,i,x,hi,hlt,hc=>by
  simp only [Vs] at h
  rcases Ze h with ⟨h1,h2⟩ | ⟨_,h2⟩
  ·cases j with
   | zero =>
    cases hj
    rw [List.getElem?_append_left (by omega)] at hi
    have:=GS pre 0 h1 i x hi hc
    rw [Nat.zero_add] at this
    exact this
   | succ j =>
    refine XO l (pre++[z]) h2 j y hj i x (by rw [List.append_assoc]; exact hi) ?_ hc
    rw [List.length_append,List.length_singleton]
    omega
  ·cases h2
end Go.Proofs.YtheflbaejhlboaaGreatDoor.Ev
namespace Go.Proofs.YtheflbaejhlboaaGreatDoor.Ev
open Go
variable [Sig] {P:Program}
def cnt:List DI→Nat→Nat
 | [],_=>0
 | _::_,0=>0
 | x::l,p+1=>(if x.eff=true then 1 else 0)+cnt l p
theorem lo_le (bf:Nat):∀ (l:List DI) (i p:Nat),(∀ k x,l[k]? = some x→x.eff=true→Nat.testBit bf (i+k)=true→k<p)→Pd bf l i≤cnt l p
 | [],i,p,h=>Nat.le_refl _
 | x::l,i,p,h=>by
  simp only [Pd]
  cases hc:Bool.and x.eff (Nat.testBit bf i)
  ·show Pd bf l (i+1)≤_
   cases p with
   | zero =>
    refine Nat.le_trans (lo_le bf l (i+1) 0 fun k y hk he hb => ?_) (by cases l <;> exact Nat.le_refl _)
    have:=h (k+1) y hk he (by rw [show i+(k+1)=i+1+k by omega]; exact hb)
    omega
   | succ p =>
    have:=lo_le bf l (i+1) p fun k y hk he hb=>by
     have:=h (k+1) y hk he (by rw [show i+(k+1)=i+1+k by omega]; exact hb)
     omega
    simp only [cnt]
    omega
  ·show Pd bf l (i+1)+1≤_
   rw [Bool.and_eq_true] at hc
   have h0:=h 0 x rfl hc.1 (by rw [Nat.add_zero]; exact hc.2)
   cases p with
   | zero=>omega
   | succ p =>
    have:=lo_le bf l (i+1) p fun k y hk he hb=>by
     have:=h (k+1) y hk he (by rw [show i+(k+1)=i+1+k by omega]; exact hb)
     omega
    simp only [cnt,hc.1,if_true]
    omega
theorem Zeq (j:Nat):∀ (l:List DI) (p:Nat),(∀ k x,l[k]? = some x→k<p→x.eff=true→Nat.testBit x.bf j=false)→cnt l p≤Pe j l
 | [],p,h=>Nat.le_refl _
 | x::l,0,h=>Nat.zero_le _
 | x::l,p+1,h=>by
  have ih:=Zeq j l p fun k y hk hp he=>h (k+1) y hk (by omega) he
  simp only [cnt,Pe]
  cases he:x.eff
  ·show (if false=true then 1 else 0)+cnt l p≤Pe j l
   simpa using ih
  ·have:=h 0 x rfl (by omega) he
   rw [this]
   show (if true=true then 1 else 0)+cnt l p≤Pe j l+1
   simp
   omega
theorem GU (S:St):∀ (ds:List DI) (sts:List St) (p:Nat),ds.length=sts.length→(p=ds.length∨∃ x,ds[p]? = some x∧x.eff=true)→(XN ds sts++[S])[cnt ds p]? = (sts++[S])[p]?
 | [],[],p,_,h=>by
  rcases h with rfl | ⟨x,h,_⟩
  ·rfl
  ·simp at h
 | [],_::_,_,h,_=>by cases h
 | _::_,[],_,h,_=>by cases h
 | d::ds,s::sts,0,h,hp=>by
  rcases hp with h0 | ⟨x,h0,h1⟩
  ·cases h0
  ·cases h0
   show (sel d.eff (s::XN ds sts) (XN ds sts)++[S])[0]? = _
   rw [h1]
   rfl
 | d::ds,s::sts,p+1,h,hp=>by
  have ih:=GU S ds sts p (by simpa using h) (by
   rcases hp with h0 | ⟨x,h0,h1⟩
   ·exact .inl (by simpa using h0)
   ·exact .inr ⟨x,h0,h1⟩)
  show (sel d.eff (s::XN ds sts) (XN ds sts)++[S])[(if d.eff=true then 1 else 0)+cnt ds p]? = _
  cases d.eff
  ·show (XN ds sts++[S])[(if false=true then 1 else 0)+cnt ds p]? = (sts++[S])[p]?
   simpa using ih
  ·show (s::(XN ds sts++[S]))[(if true=true then 1 else 0)+cnt ds p]? = (sts++[S])[p]?
   rw [if_pos rfl,Nat.add_comm,List.getElem?_cons_succ]
   exact ih
mutual
theorem Qj:∀ (a b:Zc),Jz a b=true→a=b
 | .bool a,b,h=>by
  cases b <;> first | (cases h; done) | (have h:S9 _ _=true:=h; rw [Y3] at h; rw [eq_of_beq h])
 | .gho i t,b,h=>by
  cases b with
  | gho j u =>
   have h:Bool.and (Nat.beq i j) (Nat.beq t u)=true:=h
   rw [Bool.and_eq_true] at h
   rw [Nat.eq_of_beq_eq_true h.1,Nat.eq_of_beq_eq_true h.2]
  | _=>cases h
 | .int j a,b,h=>by
  cases b <;> first
   | (cases h; done)
   | (have h:Bool.and (keq _ _) (ieq _ _)=true:=h; rw [Bool.and_eq_true,QC] at h; rw [Jd h.1,eq_of_beq h.2])
 | .flt j a,b,h=>by
  cases b <;> first
   | (cases h; done)
   | (have h:Bool.and (Lq _ _) (Nat.beq _ _)=true:=h; rw [Bool.and_eq_true] at h; rw [YS h.1,ZD h.2])
 | .ZW j a c,b,h=>by
  cases b <;> first
   | (cases h; done)
   | (have h:Bool.and (Lq _ _) (Bool.and (Nat.beq _ _) (Nat.beq _ _))=true:=h; rw [Bool.and_eq_true,Bool.and_eq_true] at h; rw [YS h.1,ZD h.2.1,ZD h.2.2])
 | .str a,b,h=>by
  cases b <;> first
   | (cases h; done)
   | (have h:Qv _ _=true:=h; rw [Qh] at h; rw [eq_of_beq h])
 | .Zh,b,h=>by cases b <;> first | rfl | cases h
 | .ptr i a,b,h=>by
  cases b <;> first
   | (cases h; done)
   | (have h:Bool.and (Nat.beq _ _) (Nat.beq _ _)=true:=h; rw [Bool.and_eq_true] at h; rw [ZD h.1,ZD h.2])
 | .Za,b,h=>by cases b <;> first | rfl | cases h
 | .ZX,b,h=>by cases b <;> first | rfl | cases h
 | .slice i a n c,b,h=>by
  cases b with
  | slice j b m d =>
   cases c <;> cases d
   ·have h:Bool.and (Nat.beq _ _) (Bool.and (Nat.beq _ _) (Nat.beq _ _))=true:=h
    rw [Bool.and_eq_true,Bool.and_eq_true] at h
    rw [ZD h.1,ZD h.2.1,ZD h.2.2]
   ·cases h
   ·cases h
   ·have h:Bool.and (Nat.beq _ _) (Bool.and (Nat.beq _ _) (Bool.and (Nat.beq _ _) (Nat.beq _ _)))=true:=h
    rw [Bool.and_eq_true,Bool.and_eq_true,Bool.and_eq_true] at h
    rw [ZD h.1,ZD h.2.1,ZD h.2.2.1,ZD h.2.2.2]
  | _=>cases c <;> cases h
 | .Zk,b,h=>by cases b <;> first | rfl | cases h
 | .map i,b,h=>by
  cases b <;> first
   | (cases h; done)
   | (have h:Nat.beq _ _=true:=h; rw [ZD h])
 | .func f a c,b,h=>by
  cases b with
  | func g a' c' =>
   have h:Bool.and (Nat.beq f g) (Bool.and (Jt a a') (Jt c c'))=true:=h
   rw [Bool.and_eq_true,Bool.and_eq_true] at h
   rw [ZD h.1,JA a a' h.2.1,JA c c' h.2.2]
  | _=>cases h
 | .ZH,b,h=>by cases b <;> first | rfl | cases h
 | .nilIface,b,h=>by cases b <;> first | rfl | cases h
 | .iface t a,b,h=>by
  cases b with
  | iface u b =>
   have h:Bool.and (Nat.beq t u) (Jz a b)=true:=h
   rw [Bool.and_eq_true] at h
   rw [ZD h.1,Qj a b h.2]
  | _=>cases h
 | .agg a,b,h=>by
  cases b with
  | agg b=>rw [JA a b h]
  | _=>cases h
 | .tuple a,b,h=>by
  cases b with
  | tuple b=>rw [JA a b h]
  | _=>cases h
 | .sint j c a b,x,h=>by
  cases x with
  | sint k d e f =>
   have h:Bool.and (keq _ _) (Bool.and (ieq _ _) (Bool.and (ieq _ _) (ieq _ _)))=true:=h
   rw [Bool.and_eq_true,Bool.and_eq_true,Bool.and_eq_true,QC,QC,QC] at h
   rw [Jd h.1,eq_of_beq h.2.1,eq_of_beq h.2.2.1,eq_of_beq h.2.2.2]
  | _=>cases h
 | .raw a,b,h=>by
  cases b <;> first | (cases h; done) | (have h:S9 _ _=true:=h; rw [Y3] at h; rw [eq_of_beq h])
theorem JA:∀ (a b:List Zc),Jt a b=true→a=b
 | [],[],_=>rfl
 | [],_::_,h=>by simp [Jt] at h
 | _::_,[],h=>by simp [Jt] at h
 | x::xs,y::ys,h=>by
  simp only [Jt,Bool.and_eq_true] at h
  rw [Qj x y h.1,JA xs ys h.2]
end
end Go.Proofs.YtheflbaejhlboaaGreatDoor.Ev
