/- Lemmas for a law of confluencetop. -/
import Derived.Test.YtheflbaejhlboaaGreatDoorTopGp6
import Derived.LoopN
import Derived.Scope
import Derived.Orders
set_option linter.all false
namespace Go.Proofs.YtheflbaejhlboaaGreatDoor
namespace Ev
open Go
variable [Sig] {P:Program}
structure Qr (K:ZI) (r:Rho) (e:Env) (a:Act):Prop where
 env:∀ t v,e.get t=some v->K.Zf t=true/\VR r v (a.tmps.getD t undef)
 size:K.n<=a.tmps.size
 defers:a.defers=[]
def Vj (n:Nat):Al->Prop
 | .nil=>True
 | .loc _ i l=>i<n/\Vj n l
 | .same _ _ l=>Vj n l
 | .const _ _ l=>Vj n l
theorem Vj.mono {n m:Nat} (h:n<=m):∀ {al:Al},Vj n al->Vj m al
 | .nil,_=>trivial
 | .loc _ _ al,h1=>⟨Nat.lt_of_lt_of_le h1.1 h,Vj.mono (al:=al) h h1.2⟩
 | .same _ _ al,h1=>Vj.mono (al:=al) h (show Vj n al from h1)
 | .const _ _ al,h1=>Vj.mono (al:=al) h (show Vj n al from h1)
structure Inv (K:ZI) (r:Rho) (s:St) (w:World) (l:List Zb) (e0 e:Env) (n:Nat) (al:Al) (a:Act):Prop where
 rel:Rel r s w
 env:Qr K r e a
 ali:∀ t v,Zl l e0 (Z0 n al t) = .ok v->VR r v (a.tmps.getD t undef)
 lts:Vj n al
theorem Inv.start {K:ZI} {r:Rho} {s:St} {w:World} {e:Env} {a:Act} (h:Rel r s w) (he:Qr K r e a):Inv K r s w [] e e 0 .nil a :=
 ⟨h,he,fun t v hv=>(he.env t v (FT hv)).2,trivial⟩
theorem Inv.cx {K:ZI} {r:Rho} {s:St} {w:World} {l:List Zb} {e0 e:Env} {n:Nat} {al:Al} {a:Act} (h:Inv K r s w l e0 e n al a) (o:Op):Cx r l e0 (Jy n al) a o:=by
 intro x _ v hv;cases x with
 | tmp t=>exact h.ali t v hv
 | const u =>
  have hv:Zl l e0 (PY u) = .ok v:=hv;unfold PY at hv;split at hv
  ·rename_i b hb;cases hv;exact SD r u _ hb
  ·cases hv
 | func f =>
  cases hv;exact .func f .nil .nil
 | _=>cases hv
theorem ZeW {l:List Zb} {v:Zb} {n i:Nat} (h:i<n):Kt (n+1-1-i) (v::l)=Kt (n-1-i) l:=by
 have:n+1-1-i=(n-1-i)+1:=by omega
 rw [this];rfl
theorem KE {l:List Zb} {e0:Env} {v:Zb} {n:Nat} (t:Tmp):∀ {al:Al},Vj n al->Zl (v::l) e0 (Z0 (n+1) al t)=Zl l e0 (Z0 n al t)
 | .nil,_=>rfl
 | .loc u i al,h=>by
  simp only [Z0];cases Nat.beq t u
  ·exact KE t h.2
  ·exact ZeW h.1
 | .same u x al,h=>by
  simp only [Z0];cases Nat.beq t u
  ·exact KE t (al:=al) h
  ·rfl
 | .const u x al,h=>by
  simp only [Z0];cases Nat.beq t u
  ·exact KE t (al:=al) h
  ·show Zl (v::l) e0 (PY x)=Zl l e0 (PY x);unfold PY;split <;> rfl
theorem JI {a:Act} {d:Tmp} {u:Value} (h:d<a.tmps.size):(a.put (some d) u).tmps.getD d undef=u:=by
 simp [Act.put,h]
theorem Jt {a:Act} {d t:Tmp} {u:Value} (h:d≠t):(a.put (some d) u).tmps.getD t undef=a.tmps.getD t undef:=by
 simp [Act.put,Array.getElem?_setIfInBounds_ne h]
theorem RC (a:Act) (d:Option Tmp) (u:Value):(a.put d u).tmps.size=a.tmps.size:=by
 cases d <;> simp [Act.put]
theorem RD (a:Act) (d:Option Tmp) (u:Value):(a.put d u).defers=a.defers:=by
 cases d <;> rfl
theorem Qr.put {K:ZI} {r q:Rho} {e:Env} {a:Act} (h:Qr K r e a) (hle:r.le q) {o:Oper} (hd:QC K o=true) {v:Zb} {u:Value} (hv:VR q v u) :
  Qr K q (K9 e v (J9 K o)) (a.put o.dst u):=by
 refine ⟨fun t x hx => ?_,by rw [RC]; exact h.size,by rw [RD]; exact h.defers⟩;unfold QC at hd;unfold J9 at hx;cases ho:o.dst with
 | none =>
  rw [ho] at hx;have hx:e.get t=some x:=hx;obtain ⟨h1,h2⟩:=h.env t x hx;exact ⟨h1,h2.mono hle⟩
 | some d =>
  rw [ho] at hx hd;have hdn:d<a.tmps.size:=Nat.lt_of_lt_of_le (QI hd) h.size;simp only at hx;cases hk:K.Zf d
  ·rw [hk] at hx;have hx:e.get t=some x:=hx;obtain ⟨h1,h2⟩:=h.env t x hx;have hne:d≠t:=fun e=>by subst e; rw [hk] at h1; cases h1
   exact ⟨h1,by rw [Jt hne]; exact h2.mono hle⟩
  ·rw [hk] at hx;have hx:(e.set d (some v)).get t=some x:=hx;rw [JN] at hx;by_cases hdt:d=t
   ·subst hdt;rw [if_pos rfl] at hx;cases hx;exact ⟨hk,by rw [JI hdn]; exact hv⟩
   ·rw [if_neg hdt] at hx;obtain ⟨h1,h2⟩:=h.env t x hx;exact ⟨h1,by rw [Jt hdt]; exact h2.mono hle⟩
theorem Inv.step {K:ZI} {r q:Rho} {s s1:St} {w w1:World} {l:List Zb} {e0 e:Env} {n:Nat} {al:Al} {a:Act} (h:Inv K r s w l e0 e n al a) {o:Oper} (hd:QC K o=true)
  {v:Zb} {u:Value} (hv:VR q v u) (hx:Ext r s w q s1 w1):Inv K q s1 w1 (v::l) e0 (K9 e v (J9 K o)) (n+1) (Qi n al o) (a.put o.dst u):=by
 refine ⟨hx.rel,h.env.put hx.le hd hv,fun t x ht => ?_,?_⟩
 ·unfold Qi at ht;unfold QC at hd;cases ho:o.dst with
  | none =>
   rw [ho] at ht;have ht:Zl (v::l) e0 (Z0 (n+1) al t) = .ok x:=ht;rw [KE t h.lts] at ht;exact (h.ali t x ht).mono hx.le
  | some d =>
   rw [ho] at ht hd;have hdn:d<a.tmps.size:=Nat.lt_of_lt_of_le (QI hd) h.env.size;simp only [Z0] at ht;cases hb:Nat.beq t d
   ·rw [hb] at ht;have ht:Zl (v::l) e0 (Z0 (n+1) al t) = .ok x:=ht;rw [KE t h.lts] at ht;rw [Jt (Ne.symm (JC hb))];exact (h.ali t x ht).mono hx.le
   ·rw [hb] at ht;have:=ZE hb;subst this;have ht:Kt (n+1-1-n) (v::l) = .ok x:=ht;rw [show n+1-1-n=0 by omega] at ht;cases ht;rw [JI hdn];exact hv
 ·unfold Qi;cases o.dst with
  | none=>exact h.lts.mono (Nat.le_succ n)
  | some d=>exact ⟨Nat.lt_succ_self n,h.lts.mono (Nat.le_succ n)⟩
theorem WE (n:Nat) (d t:Tmp):∀ (al:Al),(∃ u,V1 al d t = .same d u/\Z0 n al t = .tmp (bits u))\/(∃ i,V1 al d t = .loc d i/\Z0 n al t = .loc (n-1-i)/\(Vj n al->i<n)) \/
   (∃ v,V1 al d t = .const d v/\Z0 n al t=PY v)
 | .nil => .inl ⟨t,rfl,rfl⟩
 | .loc u i al=>by
  simp only [V1,Z0];cases Nat.beq t u
  ·rcases WE n d t al with h | ⟨j,h1,h2,h3⟩ | h
   ·exact .inl h
   ·exact .inr (.inl ⟨j,h1,h2,fun h=>h3 h.2⟩)
   ·exact .inr (.inr h)
  ·exact .inr (.inl ⟨i,rfl,rfl,fun h=>h.1⟩)
 | .same u x al=>by
  simp only [V1,Z0];cases Nat.beq t u
  ·exact WE n d t al
  ·exact .inl ⟨x,rfl,rfl⟩
 | .const u x al=>by
  simp only [V1,Z0];cases Nat.beq t u
  ·exact WE n d t al
  ·exact .inr (.inr ⟨x,rfl,rfl⟩)
theorem F5 {K:ZI} {al:Al} {o:Oper} (h:Ei K al o ≠ .no):∃ d,o.guard=none/\o.dst=some d/\K.Zf d=false/\Ei K al o=ZbW al d o.op:=by
 unfold Ei at h ⊢;split at h
 ·rename_i d hg hd;cases hk:K.Zf d
  ·exact ⟨d,hg,hd,hk,rfl⟩
  ·rw [hk] at h; exact absurd rfl h
 ·exact absurd rfl h
theorem F6 {al:Al} {d:Tmp} {op:Op} (h:ZbW al d op ≠ .no):(∃ v,op = .move (.const v)/\ZbW al d op = .const d v)\/(∃ t,op = .move (.tmp t)/\ZbW al d op=V1 al d t):=by
 unfold ZbW at h ⊢;split at h
 ·exact .inl ⟨_,rfl,rfl⟩
 ·exact .inr ⟨_,rfl,rfl⟩
 ·exact absurd rfl h
theorem Inv.move {K:ZI} {r:Rho} {s:St} {w:World} {l:List Zb} {e0 e:Env} {n:Nat} {al al':Al} {a:Act} (h:Inv K r s w l e0 e n al a) {d:Tmp} (hk:K.Zf d=false) (hd:Nat.blt d K.n=true)
  {u:Value} (h1:∀ t,t≠d->Z0 n al' t=Z0 n al t) (h2:∀ v,Zl l e0 (Z0 n al' d) = .ok v->VR r v u) (h3:Vj n al') :
  Inv K r s w l e0 e n al' (a.put (some d) u):=by
 have hdn:d<a.tmps.size:=Nat.lt_of_lt_of_le (QI hd) h.env.size;refine ⟨h.rel,⟨fun t v ht => ?_,by rw [RC]; exact h.env.size,by rw [RD]; exact h.env.defers⟩,fun t v ht => ?_,h3⟩
 ·obtain ⟨h4,h5⟩:=h.env.env t v ht;have hne:d≠t:=fun e=>by subst e; rw [hk] at h4; cases h4
  exact ⟨h4,by rw [Jt hne]; exact h5⟩
 ·by_cases hdt:t=d
  ·subst hdt;rw [JI hdn];exact h2 v ht
  ·rw [h1 t hdt] at ht;rw [Jt (Ne.symm hdt)];exact h.ali t v ht
end Ev
namespace Ev
open Go
variable [Sig] {P:Program}
theorem N5 {v:Zb} {b:Bool} (h:KT v=some b):v = .bool b:=by
 unfold KT at h;split at h
 ·cases h; rfl
 ·cases h
theorem Eo {r:Rho} {v:Zb} {u:Value} (h:KT v=none) (hv:VR r v u) (b:Bool):u ≠ .bool b:=by
 rintro rfl;cases hv
 ·cases h
 ·rename_i g _ _ hu _;exact g.nob b hu
theorem T8 (a b:Bool):Nj a b=(a==b):=by cases a <;> cases b <;> rfl
theorem ZeX {a:Act} {t:Tmp} {b:Bool} (h:a.tmps.getD t undef = .bool b):a.tmps[t]? = some (.bool b):=by
 rw [Array.getD_eq_getD_getElem?] at h;cases hx:a.tmps[t]? with
 | none=>rw [hx] at h; cases h
 | some u=>rw [hx] at h; exact congrArg some h
theorem ZeY {a:Act} {t:Tmp} {u:Value} (h:a.tmps[t]? = some u):a.tmps.getD t undef=u:=by
 rw [Array.getD_eq_getD_getElem?,h];rfl
theorem Yy {r:Rho} {l:List Zb} {e0:Env} {co:Cod} {a:Act} {ops:Array Oper} {o:Oper} (hc:∀ t∈Rx ops o,∀ v,Zl l e0 (co (.tmp t)) = .ok v->VR r v (a.tmps.getD t undef)) :
  (wanted l e0 (guardOf co ops o) = .yes->Region.wanted o (yielded ops a.tmps)=true)/\(wanted l e0 (guardOf co ops o) = .no->Region.wanted o (yielded ops a.tmps)=false):=by
 cases hg:o.guard with
 | none =>
  have h1:guardOf co ops o=none:=by unfold guardOf; rw [hg]
  have h2:Region.wanted o (yielded ops a.tmps)=true:=by unfold Region.wanted; rw [hg]
  rw [h1,h2];exact ⟨fun _=>rfl,fun h=>(by cases h)⟩
 | some jw =>
  obtain ⟨j,want⟩:=jw;have h2:Region.wanted o (yielded ops a.tmps)=(yielded ops a.tmps j==some want):=by unfold Region.wanted; rw [hg]
  rw [h2];cases ht:(ops[j]?).bind (·.dst) with
  | none =>
   have h1:guardOf co ops o=some (.bad,want):=by unfold guardOf; rw [hg]; simp only [ht]
   rw [h1];exact ⟨fun h=>(by cases h),fun h=>(by cases h)⟩
  | some t =>
   have h1:guardOf co ops o=some (co (.tmp t),want):=by unfold guardOf; rw [hg]; simp only [ht]
   rw [h1];show (wtV want (Zl l e0 (co (.tmp t))) = .yes->(yielded ops a.tmps j==some want)=true)/\(wtV want (Zl l e0 (co (.tmp t))) = .no->(yielded ops a.tmps j==some want)=false)
   cases hv:Zl l e0 (co (.tmp t)) with
   | bad=>exact ⟨fun h=>(by cases h),fun h=>(by cases h)⟩
   | ok v =>
    have aP:=hc t (by unfold Rx; rw [hg]; simp only [ht]; exact List.mem_singleton.2 rfl) v hv
    have hy:yielded ops a.tmps j=KT v:=by
     unfold yielded;rw [ht];cases hb:KT v with
     | some b =>
      have:=N5 hb;subst this
      generalize hg2:a.tmps.getD t undef=g at aP
      cases aP;have:=ZeX hg2;simp [this]
     | none =>
      have hn:=Eo hb aP;simp only [Option.bind_some];split
      ·rename_i b hb';exact absurd (ZeY hb') (hn b)
      ·rfl
    rw [hy];show (sel (isB want (KT v)) Wt.yes Wt.no = .yes->_)/\(sel (isB want (KT v)) Wt.yes Wt.no = .no->_)
    cases hb:KT v with
    | none=>exact ⟨fun h=>(by cases h),fun _=>(by cases want <;> rfl)⟩
    | some b =>
     have:isB want (some b)=(b==want):=T8 b want;rw [this];cases b <;> cases want <;> exact ⟨fun h=>(by first | rfl | cases h),fun h=>(by first | rfl | cases h)⟩
theorem ZeZ {go:List Zb->Env->St->Res} {l:List Zb} {e0 e e':Env} {s s':St} {x:Ex} {run:Cl} {d:Option (List Bool)} {g:Option (Qh×Bool)} (h:ZhN go l e0 e s (.mk run d g) = .ok x e' s') :
  ∃ v s1,((wanted l e0 g = .yes/\run.run l e0 s = .ok v s1)\/(wanted l e0 g = .no/\v=QH/\s1=s))/\go (v::l) (K9 e v d) s1 = .ok x e' s':=by
 have h:@Wt.rec (fun _=>Res) (@R.rec (fun _=>Res) (fun v s=>go (v::l) (K9 e v d) s) .bad (run.run l e0 s)) (go (QH::l) (K9 e QH d) s) .bad (wanted l e0 g) = .ok x e' s':=h;cases hw:wanted l e0 g with
 | yes =>
  rw [hw] at h;cases hr:run.run l e0 s with
  | bad=>rw [hr] at h; cases h
  | ok v s1=>rw [hr] at h; exact ⟨v,s1,.inl ⟨rfl,rfl⟩,h⟩
 | no=>rw [hw] at h; exact ⟨QH,s,.inr ⟨rfl,rfl,rfl⟩,h⟩
 | bad=>rw [hw] at h; cases h
theorem Yi {ops:Array Oper} {Q:Exit->Act->World->Prop} {i:Nat} {rest:List Nat} {o:Oper} {a:Act} {w:World} (ho:ops[i]? = some o)
  (h1:Region.wanted o (yielded ops a.tmps)=true->o.wp P a w (wpOps P ops Q rest) Q) (h2:Region.wanted o (yielded ops a.tmps)=false->wpOps P ops Q rest (a.put o.dst undef) w) :
  wpOps P ops Q (i::rest) a w:=by
 simp only [wpOps,ho];split
 ·rename_i h; exact .inl (h1 h)
 ·rename_i h; exact h2 (by simpa using h)
theorem mH {t:Nat}:Nat.beq t t=true:=Nat.beq_refl t
theorem Ze0 {t d:Nat} (h:t≠d):Nat.beq t d=false:=by
 cases hb:Nat.beq t d
 ·rfl
 ·exact absurd (ZE hb) h
structure MvF (K:ZI) (n:Nat) (al:Al) (o:Oper) (d:Tmp) (al':Al):Prop where
 guard:o.guard=none
 dst:o.dst=some d
 Zf:K.Zf d=false
 op:∃ x,o.op = .move x/\Z0 n al' d=Jy n al x
 other:∀ t,t≠d->Z0 n al' t=Z0 n al t
 lts:Vj n al->Vj n al'
theorem Ze1 {K:ZI} {al:Al} {o:Oper} {d:Tmp} {v:Value} (n:Nat) (h:Ei K al o = .const d v):MvF K n al o d (.const d v al):=by
 obtain ⟨d',hg,hd,hk,hm⟩:=F5 (K:=K) (al:=al) (o:=o) (by rw [h]; intro e; cases e);rw [hm] at h
 have mI:∀ t,t≠d->Z0 n (.const d v al) t=Z0 n al t:=fun t ht=>by
  simp only [Z0,Ze0 ht];rfl
 rcases F6 (al:=al) (d:=d') (op:=o.op) (by rw [h]; intro e; cases e) with ⟨u,hop,h1⟩ | ⟨t,hop,h1⟩
 ·rw [h1] at h;cases h;refine ⟨hg,hd,hk,⟨_,hop,?_⟩,mI,fun h=>h⟩;simp only [Z0,mH];rfl
 ·rw [h1] at h;rcases WE n d' t al with ⟨u,h2,h3⟩ | ⟨j,h2,h3,h4⟩ | ⟨u,h2,h3⟩
  ·rw [h2] at h; cases h
  ·rw [h2] at h; cases h
  ·rw [h2] at h;cases h;refine ⟨hg,hd,hk,⟨_,hop,?_⟩,mI,fun h=>h⟩;simp only [Z0,mH];exact h3.symm
theorem ZgO {K:ZI} {al:Al} {o:Oper} {d u:Tmp} (n:Nat) (h:Ei K al o = .same d u):MvF K n al o d (.same d u al):=by
 obtain ⟨d',hg,hd,hk,hm⟩:=F5 (K:=K) (al:=al) (o:=o) (by rw [h]; intro e; cases e);rw [hm] at h
 have mI:∀ t,t≠d->Z0 n (.same d u al) t=Z0 n al t:=fun t ht=>by
  simp only [Z0,Ze0 ht];rfl
 rcases F6 (al:=al) (d:=d') (op:=o.op) (by rw [h]; intro e; cases e) with ⟨u,hop,h1⟩ | ⟨t,hop,h1⟩
 ·rw [h1] at h;cases h
 ·rw [h1] at h;rcases WE n d' t al with ⟨u,h2,h3⟩ | ⟨j,h2,h3,h4⟩ | ⟨u,h2,h3⟩
  ·rw [h2] at h;cases h;refine ⟨hg,hd,hk,⟨_,hop,?_⟩,mI,fun h=>h⟩;simp only [Z0,mH];exact h3.symm
  ·rw [h2] at h; cases h
  ·rw [h2] at h; cases h
theorem ZjV {K:ZI} {al:Al} {o:Oper} {d:Tmp} {i:Nat} (n:Nat) (h:Ei K al o = .loc d i) (hl:Vj n al):MvF K n al o d (.loc d i al):=by
 obtain ⟨d',hg,hd,hk,hm⟩:=F5 (K:=K) (al:=al) (o:=o) (by rw [h]; intro e; cases e);rw [hm] at h
 have mI:∀ t,t≠d->Z0 n (.loc d i al) t=Z0 n al t:=fun t ht=>by
  simp only [Z0,Ze0 ht];rfl
 rcases F6 (al:=al) (d:=d') (op:=o.op) (by rw [h]; intro e; cases e) with ⟨u,hop,h1⟩ | ⟨t,hop,h1⟩
 ·rw [h1] at h;cases h
 ·rw [h1] at h;rcases WE n d' t al with ⟨u,h2,h3⟩ | ⟨j,h2,h3,h4⟩ | ⟨u,h2,h3⟩
  ·rw [h2] at h; cases h
  ·rw [h2] at h;cases h;refine ⟨hg,hd,hk,⟨_,hop,?_⟩,mI,fun h=>⟨h4 h,h⟩⟩;simp only [Z0,mH];exact h3.symm
  ·rw [h2] at h; cases h
theorem Vt {call:Zz} (hcall:Z3 P call) {K:ZI} {ops:Array Oper} {e0:Env} {Q:Exit->Act->World->Prop}:∀ (rest:List Oper) (i:Nat),ops.toList.drop i=rest ->
  ∀ (n:Nat) (al:Al) (l:List Zb) (e e':Env) (s s':St) (x:Ex) (a:Act) (w:World) (r:Rho),Inv K r s w l e0 e n al a ->
  Yh e0 (JO P call K ops rest n al) l e s = .ok x e' s' ->
  (∀ q a' w',Ext r s w q s' w'->Qr K q e' a'->x = .normal->Q .normal a' w')->wpOps P ops Q (List.range' i rest.length) a w
 | [],i,_,n,al,l,e,e',s,s',x,a,w,r,inv,h,hQ=>by
  cases h;exact hQ r a w (Ext.refl inv.rel) inv.env rfl
 | o::rest,i,hd,n,al,l,e,e',s,s',x,a,w,r,inv,h,hQ=>by
  have ho:ops[i]? = some o:=by
   rw [<- Array.getElem?_toList,<- List.head?_drop,hd];rfl
  have hd':ops.toList.drop (i+1)=rest:=by rw [<- List.drop_drop,hd]; rfl
  rw [List.length_cons,List.range'_succ]
  have lD:∀ (d:Tmp) (al':Al),MvF K n al o d al'->Yh e0 (sel (QC K o) (JO P call K ops rest n al') (.cons ZbX .nil)) l e s = .ok x e' s' ->
    wpOps P ops Q (i::List.range' (i+1) rest.length) a w:=by
   intro d al' hf hrun;cases hdi:QC K o
   ·rw [hdi] at hrun; cases hrun
   ·rw [hdi] at hrun
    have hdn:Nat.blt d K.n=true:=by
     unfold QC at hdi;rw [hf.dst] at hdi;exact hdi
    obtain ⟨y,hop,hty⟩:=hf.op;have hcx:=inv.cx o.op y (by rw [hop]; simp [Op.operands]);have jT:=inv.move (al':=al') (u:=a.eval y) hf.Zf hdn hf.other (fun v hv=>hcx v (by rw [<- hty]; exact hv)) (hf.lts inv.lts);have ih:=Vt hcall (Q:=Q) rest (i+1) hd' n al' l e e' s s' x _ w r jT hrun hQ;refine Yi ho (fun _ => ?_) fun hw => ?_
    ·unfold Oper.wp execOp;rw [hop];show wpOps P ops Q _ (a.put o.dst (a.eval y)) w;rw [hf.dst];exact ih
    ·unfold Region.wanted at hw;rw [hf.guard] at hw;cases hw
  unfold JO at h;split at h
  ·rename_i hmv;unfold Y0 at h;cases hdi:QC K o
   ·rw [hdi] at h; cases h
   ·rw [hdi] at h;obtain ⟨v,s1,h1,h2⟩:=ZeZ h;have hwt:=Yy (co:=Jy n al) (ops:=ops) (o:=o) fun t _=>inv.ali t;rcases h1 with ⟨h3,h4⟩ | ⟨h3,rfl,rfl⟩
    ·refine Yi ho (fun _ => ?_) fun hw => ?_
     ·refine (PC hcall h4).ok inv.rel (inv.cx _) _ _ fun q u w1 hx hv => ?_;exact Vt hcall rest (i+1) hd' (n+1) _ _ _ e' s1 s' x _ w1 q (inv.step hdi hv hx) h2 fun q' a' w' hx'=>hQ q' a' w' (hx.trans hx')
     ·rw [hwt.1 h3] at hw;cases hw
    ·refine Yi ho (fun hw => ?_) fun _ => ?_
     ·rw [hwt.2 h3] at hw;cases hw
     ·exact Vt hcall rest (i+1) hd' (n+1) _ _ _ e' s1 s' x _ w r (inv.step hdi (.tuple .nil) (Ext.refl inv.rel)) h2 hQ
  ·rename_i d y hmv;exact lD d _ (Ze1 n hmv) h
  ·rename_i d y hmv;exact lD d _ (ZgO n hmv) h
  ·rename_i d y hmv;exact lD d _ (ZjV n hmv inv.lts) h
theorem Zb2 {call:Zz} (hcall:Z3 P call) {K:ZI} {ops:Array Oper} {id:Nat} {e e':Env} {s s':St} {x:Ex} {a:Act} {w:World} {r:Rho} (hr:Rel r s w) (he:Qr K r e a)
  (h:Ej (JO P call K ops ops.toList 0 .nil) e s = .ok x e' s') {Q:Exit->Act->World->Prop} (hQ:∀ q a' w',Ext r s w q s' w'->Qr K q e' a'->x = .normal->Q .normal a' w') :
  (Code.region id ops false).wp P Q a w:=by
 refine wp_region ?_;have:=Vt hcall (Q:=Q) ops.toList 0 rfl 0 .nil [] e e' s s' x a w r (Inv.start hr he) h hQ;rw [List.range_eq_range',<- Array.length_toList];exact this
end Ev
namespace Ev
open Go
variable [Sig] {P:Program}
def B7:Ex->Exit
 | .normal => .normal
 | .exit i => .exit i
 | .goto l => .goto l
 | .ret => .ret
def QJ (P:Program) (K:ZI) (c:Code) (f:Env->St->Res):Prop :=
 ∀ (e:Env) (s:St) (x:Ex) (e':Env) (s':St),f e s = .ok x e' s'->∀ (r:Rho) (w:World) (a:Act) (Q:Exit->Act->World->Prop),Rel r s w->Qr K r e a ->
  (∀ q a' w',Ext r s w q s' w'->Qr K q e' a'->Q (B7 x) a' w')->c.wp P Q a w
def Zlx (P:Program) (K:ZI) (R:Exit->Act->World->Prop) (r:Rho) (s:St) (w:World) (y:Res):Prop :=
 ∀ (x:Ex) (e':Env) (s':St),y = .ok x e' s'->∀ q a' w',Ext r s w q s' w'->Qr K q e' a'->R (B7 x) a' w'
theorem QJ.run {K:ZI} {c:Code} {f:Env->St->Res} (h:QJ P K c f) {e:Env} {s:St} {r:Rho} {w:World} {a:Act} {Q:Exit->Act->World->Prop} (hr:Rel r s w) (he:Qr K r e a)
  (hb:f e s ≠ .bad) (hQ:Zlx P K Q r s w (f e s)):c.wp P Q a w:=by
 cases hf:f e s with
 | bad=>exact absurd hf hb
 | ok x e1 s1=>exact h e s x e1 s1 hf r w a Q hr he fun q a' w' hx he'=>hQ x e1 s1 hf q a' w' hx he'
theorem By {k:Env->St->Res} {y:Res} {x:Ex} {e':Env} {s':St} (h:Bu k y = .ok x e' s'):∃ x1 e1 s1,y = .ok x1 e1 s1/\((x1 = .normal/\k e1 s1 = .ok x e' s')\/(x1 ≠ .normal/\x=x1/\e'=e1/\s'=s1)):=by
 cases y with
 | bad=>cases h
 | ok x1 e1 s1 =>
  refine ⟨x1,e1,s1,rfl,?_⟩;cases x1 with
  | normal=>exact .inl ⟨rfl,h⟩
  | exit i=>cases h; exact .inr ⟨fun e=>(by cases e),rfl,rfl,rfl⟩
  | goto l=>cases h; exact .inr ⟨fun e=>(by cases e),rfl,rfl,rfl⟩
  | ret=>cases h; exact .inr ⟨fun e=>(by cases e),rfl,rfl,rfl⟩
theorem ZjW {K:ZI} {c d:Code} {f g:Env->St->Res} (hf:QJ P K c f) (hg:QJ P K d g):QJ P K (.seq c d) (fun e s=>Bu g (f e s)):=by
 intro e s x e' s' h r w a Q hr he hQ;obtain ⟨x1,e1,s1,h1,h2⟩:=By h;refine wp_seq (hf e s x1 e1 s1 h1 r w a _ hr he fun q a1 w1 hx he1 => ?_);rcases h2 with ⟨rfl,h2⟩ | ⟨hn,rfl,rfl,rfl⟩
 ·exact hg e1 s1 x e' s' h2 q w1 a1 Q hx.rel he1 fun q' a' w' hx' he'=>hQ q' a' w' (hx.trans hx') he'
 ·have:=hQ q a1 w1 hx he1;cases x with
  | normal=>exact absurd rfl hn
  | exit i=>exact this
  | goto l=>exact this
  | ret=>exact this
theorem Zb3 {i:Nat} {y:Res} {x:Ex} {e':Env} {s':St} (h:RT i y = .ok x e' s'):∃ x1,y = .ok x1 e' s'/\((x1 = .exit i/\x = .normal)\/(x1 ≠ .exit i/\x=x1)):=by
 cases y with
 | bad=>cases h
 | ok x1 e1 s1 =>
  cases x1 with
  | normal=>cases h; exact ⟨_,rfl,.inr ⟨fun e=>(by cases e),rfl⟩⟩
  | exit j =>
   have h:sel (Nat.beq i j) (Res.ok .normal e1 s1) (.ok (.exit j) e1 s1) = .ok x e' s':=h;cases hb:Nat.beq i j
   ·rw [hb] at h;cases h;exact ⟨_,rfl,.inr ⟨fun e=>(by cases e; exact JC hb rfl),rfl⟩⟩
   ·rw [hb] at h;cases h;have:=ZE hb;subst this;exact ⟨_,rfl,.inl ⟨rfl,rfl⟩⟩
  | goto l=>cases h; exact ⟨_,rfl,.inr ⟨fun e=>(by cases e),rfl⟩⟩
  | ret=>cases h; exact ⟨_,rfl,.inr ⟨fun e=>(by cases e),rfl⟩⟩
theorem Ze2 {K:ZI} {i:Nat} {c:Code} {f:Env->St->Res} (hf:QJ P K c f):QJ P K (.block i c) (fun e s=>RT i (f e s)):=by
 intro e s x e' s' h r w a Q hr he hQ;obtain ⟨x1,h1,h2⟩:=Zb3 h;refine wp_block (hf e s x1 e' s' h1 r w a _ hr he fun q a1 w1 hx he1 => ?_);have:=hQ q a1 w1 hx he1;rcases h2 with ⟨rfl,rfl⟩ | ⟨hn,rfl⟩
 ·show (if i=i then Q .normal a1 w1 else Q (.exit i) a1 w1);rw [if_pos rfl];exact this
 ·cases x with
  | normal=>exact this
  | exit j =>
   show (if j=i then Q .normal a1 w1 else Q (.exit j) a1 w1);rw [if_neg fun e=>hn (by rw [e])];exact this
  | goto l=>exact this
  | ret=>exact this
theorem ZgP {K:ZI} {x:Operand} {c d:Code} {f g:Env->St->Res} (hf:QJ P K c f) (hg:QJ P K d g):QJ P K (.cond x c d) (fun e s=>ZeS f g e s (Zl [] e (Jy 0 .nil x))):=by
 intro e s y e' s' h r w a Q hr he hQ;have h:ZeS f g e s (Zl [] e (Jy 0 .nil x)) = .ok y e' s':=h;cases hv:Zl [] e (Jy 0 .nil x) with
 | bad=>rw [hv] at h; cases h
 | ok v =>
  rw [hv] at h;have h:ZhP f g e s (KT v) = .ok y e' s':=h;have hc:=(Inv.start hr he).cx (.move x) x (by simp [Op.operands]) v hv;cases hb:KT v with
  | none=>rw [hb] at h; cases h
  | some b =>
   have:=N5 hb;subst this
   generalize hg2:a.eval x=u at hc
   cases hc;rw [hb] at h;cases b
   ·exact wp_cond_false hg2 (hg e s y e' s' h r w a Q hr he hQ)
   ·exact wp_cond_true hg2 (hf e s y e' s' h r w a Q hr he hQ)
end Ev
namespace Ev
open Go
variable [Sig] {P:Program}
theorem ZgQ {K:ZI} {c:Code} {f:Env->St->Res} (hf:QJ P K c f) (n:Nat):QJ P K (.loop c) (ZeT f n):=by
 intro e s x e' s' h r w a Q hr he hQ;refine wp_loop_rounds n ?_
 induction n generalizing e s r w a with
 | zero=>cases h
 | succ n ih =>
  have h:Bu (ZeT f n) (f e s) = .ok x e' s':=h;obtain ⟨x1,e1,s1,h1,h2⟩:=By h;rw [rounds_succ];refine hf e s x1 e1 s1 h1 r w a _ hr he fun q a1 w1 hx he1 => ?_;rcases h2 with ⟨rfl,h2⟩ | ⟨hn,rfl,rfl,rfl⟩
  ·exact ih e1 s1 h2 q w1 a1 hx.rel he1 fun q' a' w' hx' he'=>hQ q' a' w' (hx.trans hx') he'
  ·have:=hQ q a1 w1 hx he1;cases x with
   | normal=>exact absurd rfl hn
   | exit i=>exact this
   | goto l=>exact this
   | ret=>exact this
def Yz (P:Program) (body c:Code) (Q:Exit->Act->World->Prop) (a:Act) (w:World):Prop :=
 ∀ (b:Frame) (k:List Item) (cs:List Frame),∃ e a' w',Q e a' w'/\Arrives P (lone (b.at a (.code c :: .inScope body::k)) cs w) b k cs e a' w'
def SJ (P:Program) (body:Code) (Q:Exit->Act->World->Prop):Exit->Act->World->Prop
 | .goto l,a,w=>match findLabel body l with
  | some rest=>Yz P body rest Q a w
  | none=>Q (.goto l) a w
 | e,a,w=>Q e a w
theorem F7 {body c:Code} {Q:Exit->Act->World->Prop} {a:Act} {w:World} (h:c.wp P (SJ P body Q) a w):Yz P body c Q a w:=by
 intro b k cs;obtain ⟨e,a₁,w₁,hq,harr⟩:=h b (.inScope body::k) cs;cases e with
 | normal=>exact ⟨.normal,a₁,w₁,hq,Steps.trans harr (.one step_inScope)⟩
 | exit id=>exact ⟨.exit id,a₁,w₁,hq,fun k' hk=>harr k' (by simp [exitTo,hk])⟩
 | goto l =>
  cases hl:findLabel body l with
  | some rest =>
   simp only [SJ,hl] at hq;obtain ⟨e₂,a₂,w₂,hq₂,harr₂⟩:=hq b k cs;exact ⟨e₂,a₂,w₂,hq₂,.of_steps (harr (.code rest :: .inScope body::k) (by simp [gotoIn,hl])) harr₂⟩
  | none =>
   simp only [SJ,hl] at hq;exact ⟨.goto l,a₁,w₁,hq,fun k' hk=>harr k' (by simp [gotoIn,hl,hk])⟩
 | ret=>exact ⟨.ret,a₁,w₁,hq,harr⟩
 | panic ch=>exact ⟨.panic ch,a₁,w₁,hq,harr⟩
 | outgrown=>exact ⟨.outgrown,a₁,w₁,hq,harr⟩
theorem Bz {body:Code} {Q:Exit->Act->World->Prop} {a:Act} {w:World} (h:Yz P body body Q a w):(Code.scope body).wp P Q a w:=by
 intro b k cs;obtain ⟨e,a',w',hq,harr⟩:=h b k cs;exact ⟨e,a',w',hq,.of_steps (.one step_scope) harr⟩
theorem N6 {K:ZI} {body:Code} {ex:CC->Env->St->Res} {rest:Nat->Option CC}
  (hrest:∀ l,match findLabel body l with
   | some c=>∃ cc,rest l=some cc/\QJ P K c (ex cc)
   | none=>rest l=none) :
  ∀ (n:Nat) (c:Code) (f:Env->St->Res),QJ P K c f->∀ (e:Env) (s:St) (x:Ex) (e':Env) (s':St),F3 ex rest n (f e s) = .ok x e' s' ->
   ∀ (r:Rho) (w:World) (a:Act) (Q:Exit->Act->World->Prop),Rel r s w->Qr K r e a->(∀ q a' w',Ext r s w q s' w'->Qr K q e' a'->Q (B7 x) a' w')->Yz P body c Q a w
 | 0,c,f,hf,e,s,x,e',s',h,r,w,a,Q,hr,he,hQ=>by cases h
 | n+1,c,f,hf,e,s,x,e',s',h,r,w,a,Q,hr,he,hQ=>by
  have h:ZaG ex rest (F3 ex rest n) (f e s) = .ok x e' s':=h;refine F7 ?_;cases hy:f e s with
  | bad=>rw [hy] at h; cases h
  | ok x1 e1 s1 =>
   rw [hy] at h;refine hf e s x1 e1 s1 hy r w a _ hr he fun q a1 w1 hx he1 => ?_;cases x1 with
   | normal=>cases h; exact hQ q a1 w1 hx he1
   | exit i=>cases h; exact hQ q a1 w1 hx he1
   | ret=>cases h; exact hQ q a1 w1 hx he1
   | goto l =>
    have h:ZeU ex (F3 ex rest n) l e1 s1 (rest l) = .ok x e' s':=h;have hl:=hrest l;cases hfl:findLabel body l with
    | none =>
     rw [hfl] at hl;have hl:rest l=none:=hl;rw [hl] at h;cases h;show (match findLabel body l with | some rest=>Yz P body rest Q a1 w1 | none=>Q (.goto l) a1 w1);rw [hfl];exact hQ q a1 w1 hx he1
    | some c1 =>
     rw [hfl] at hl;obtain ⟨cc1,hl,hc1⟩:=hl;rw [hl] at h;show (match findLabel body l with | some rest=>Yz P body rest Q a1 w1 | none=>Q (.goto l) a1 w1);rw [hfl];exact N6 hrest n c1 (ex cc1) hc1 e1 s1 x e' s' h q w1 a1 Q hx.rel he1 fun q' a' w' hx' he'=>hQ q' a' w' (hx.trans hx') he'
def Qx (T:Nat->Array Oper->Bool->Prop):Code->Prop
 | .region id ops d=>T id ops d
 | .seq a b=>Qx T a/\Qx T b
 | .cond _ a b=>Qx T a/\Qx T b
 | .block _ b=>Qx T b
 | .loop b=>Qx T b
 | .scope b=>Qx T b
 | _=>True
theorem Qx.label {T:Nat->Array Oper->Bool->Prop} {l:Nat}:∀ {c rest:Code},Qx T c->findLabel c l=some rest->Qx T rest
 | .seq a b,rest,h,hf=>by
  simp only [findLabel] at hf;split at hf
  ·rename_i ra hra;cases hf;exact ⟨Qx.label h.1 hra,h.2⟩
  ·exact Qx.label h.2 hf
 | .label l',rest,h,hf=>by
  simp only [findLabel] at hf;split at hf
  ·cases hf; trivial
  ·cases hf
 | .skip,_,_,hf=>by cases hf
 | .region _ _ _,_,_,hf=>by cases hf
 | .cond _ _ _,_,_,hf=>by cases hf
 | .block _ _,_,_,hf=>by cases hf
 | .loop _,_,_,hf=>by cases hf
 | .rangeFunc _ _ _ _,_,_,hf=>by cases hf
 | .exit _,_,_,hf=>by cases hf
 | .scope _,_,_,hf=>by cases hf
 | .goto _,_,_,hf=>by cases hf
 | .ret,_,_,hf=>by cases hf
 | .refuse _,_,_,hf=>by cases hf
theorem Qx.all {T:Nat->Array Oper->Bool->Prop} (h:∀ id ops d,T id ops d):∀ c,Qx T c
 | .region id ops d=>h id ops d
 | .seq a b=>⟨Qx.all h a,Qx.all h b⟩
 | .cond _ a b=>⟨Qx.all h a,Qx.all h b⟩
 | .block _ b=>Qx.all h b
 | .loop b=>Qx.all h b
 | .scope b=>Qx.all h b
 | .skip=>trivial
 | .label _=>trivial
 | .rangeFunc _ _ _ _=>trivial
 | .exit _=>trivial
 | .goto _=>trivial
 | .ret=>trivial
 | .refuse _=>trivial
def MU (P:Program) (call:Zz) (K:ZI):Prop:=∀ id ops,QJ P K (.region id ops true) (ZbZ P call K ops (Q0 P ops ops.toList (Zw ops.toList []))).run
def Za1 (P:Program) (K:ZI) (kn:Kp) (id:Nat) (ops:Array Oper) (d:Bool):Prop:=∀ g,kn id=some g->QJ P K (.region id ops d) g.run
theorem P4 {call:Zz} (hcall:Z3 P call) {K:ZI} (aQ:MU P call K) {kn:Kp} {fuel:Nat}:∀ (n:Nat) (c:Code),Qx (Za1 P K kn) c ->
  QJ P K c (Gt P call K kn fuel n (cc P call K kn c))
 | 0,c,_=>fun e s x e' s' h=>by cases h
 | n+1,c,az=>by
  induction c with
  | skip=>intro e s x e' s' h r w a Q hr he hQ; cases h; exact wp_skip (hQ r a w (Ext.refl hr) he)
  | label l=>intro e s x e' s' h r w a Q hr he hQ; cases h; exact wp_label (hQ r a w (Ext.refl hr) he)
  | exit i=>intro e s x e' s' h r w a Q hr he hQ; cases h; exact wp_exit (hQ r a w (Ext.refl hr) he)
  | goto l=>intro e s x e' s' h r w a Q hr he hQ; cases h; exact wp_goto (hQ r a w (Ext.refl hr) he)
  | ret=>intro e s x e' s' h r w a Q hr he hQ; cases h; exact wp_ret (hQ r a w (Ext.refl hr) he)
  | rangeFunc f p a b=>intro e s x e' s' h; cases h
  | refuse y=>intro e s x e' s' h; cases h
  | region id ops d =>
   have hk:Za1 P K kn id ops d:=az;have hc:cc P call K kn (.region id ops d)=ZhO P call K ops d (kn id):=rfl;rw [hc];cases hg:kn id with
   | some g=>exact hk g hg
   | none =>
    cases d
    ·intro e s x e' s' h r w a Q hr he hQ;refine Zb2 hcall hr he (h:Ej (JO P call K ops ops.toList 0 .nil) e s = .ok x e' s') fun q a' w' hx he' hn => ?_;subst hn;exact hQ q a' w' hx he'
    ·exact aQ id ops
  | seq a b iha ihb=>exact ZjW (iha az.1) (ihb az.2)
  | cond x a b iha ihb=>exact ZgP (iha az.1) (ihb az.2)
  | block i b ih=>exact Ze2 (ih az)
  | loop b ih=>exact ZgQ (ih az) fuel
  | scope b ih =>
   intro e s x e' s' h r w a Q hr he hQ;refine Bz (N6 (ex:=Gt P call K kn fuel n) (rest:=El P call K kn b) (fun l => ?_) fuel b _ (ih az) e s x e' s' h r w a Q hr he hQ);unfold El;cases hl:findLabel b l with
   | none=>rfl
   | some c=>exact ⟨_,rfl,P4 hcall aQ n c (Qx.label (c:=b) (show Qx _ b from az) hl)⟩
end Ev
namespace Ev
open Go
variable [Sig] {P:Program}
theorem N7 {K:ZI} {t:Tmp} {v:Zb}:∀ (l:List Zb) (i:Nat) (e:Env),(Wb K i e l).get t=some v->(K.Zf t=true/\i<=t/\l[t-i]? = some v)\/e.get t=some v
 | [],i,e,h => .inr h
 | x::l,i,e,h=>by
  rcases N7 l (i+1) _ h with ⟨h1,h2,h3⟩ | h1
  ·refine .inl ⟨h1,Nat.le_of_succ_le h2,?_⟩;have:t-i=(t-(i+1))+1:=by rw [Nat.sub_add_eq,Nat.sub_add_cancel (Nat.sub_pos_of_lt h2)]
   rw [this];exact h3
  ·cases hk:K.Zf i
   ·rw [hk] at h1; exact .inr h1
   ·rw [hk] at h1;have h1:(e.set i (some x)).get t=some v:=h1;rw [JN] at h1;by_cases hi:i=t
    ·subst hi;rw [if_pos rfl] at h1;cases h1;exact .inl ⟨hk,Nat.le_refl _,by simp⟩
    ·rw [if_neg hi] at h1;exact .inr h1
theorem MV {fn:Func} {Zf:TJ} {r:Rho} {args:List Zb} {us:List Value} (h:VRs r args us) :
  Qr ⟨fn.ntmps,Zf⟩ r (Wb ⟨fn.ntmps,Zf⟩ 0 .lf args) { tmps:=⟨us⟩++Array.replicate (fn.ntmps-(⟨us⟩:Array Value).size) undef,defers:=[] }:=by
 refine ⟨fun t v hv => ?_,by simp; omega,rfl⟩;rcases N7 args 0 .lf hv with ⟨h1,_,h2⟩ | h1
 ·refine ⟨h1,?_⟩;obtain ⟨u,h3,h4⟩:=h.get h2;have ht:t<us.length:=(List.getElem?_eq_some_iff.1 h3).1
  have:(⟨us⟩++Array.replicate (fn.ntmps-(⟨us⟩:Array Value).size) undef:Array Value)[t]? = some u:=by
   rw [Array.getElem?_append_left (by simpa using ht)];simpa using h3
  rw [Array.getD_eq_getD_getElem?,this];exact h4
 ·rw [Tj] at h1; cases h1
def Tq (a:Act):ResultVar->Sem Value
 | .tmp t=>pure (a.tmps.getD t undef)
 | .cell c t=>do loadVar t (← asAddr (a.tmps.getD c undef))
theorem Ep (fn:Func) (a:Act):results fn a.tmps=(do let vs ← fn.results.mapM (Tq a); pure (if h:vs.size=1 then vs[0] else .tuple vs)):=by
 have key:∀ f:ResultVar->Sem Value,(∀ x,f x=Tq a x)->(do let vs ← fn.results.mapM f; pure (if h:vs.size=1 then vs[0] else .tuple vs):Sem Value) =
   (do let vs ← fn.results.mapM (Tq a); pure (if h:vs.size=1 then vs[0] else .tuple vs)):=fun f hf=>by rw [funext hf]
 unfold results;exact key _ fun x=>by cases x <;> rfl
theorem Zb4 {K:ZI} {r:Rho} {s:St} {w:World} {e:Env} {a:Act} (hr:Rel r s w) (he:Qr K r e a) {x:ResultVar} {v:Zb} (h:F4 e s (ZgJ P x) = .ok v) :
  ZW P r w (Tq a x) v:=by
 cases x with
 | tmp t=>exact ⟨_,rfl,(he.env t v (FT h)).2⟩
 | cell c t =>
  have h:ZeV s (JT P t) (e.get c) = .ok v:=h;unfold ZeV at h;split at h
  ·rename_i p hp;have hv:=(he.env c p hp).2;obtain ⟨u,h1,h2⟩:=Bf (t:=t) hr.toRelB h hv;refine ⟨u,?_,h2⟩;unfold Ga at h;split at h
   ·generalize hg:a.tmps.getD c undef=g at hv h1
    cases hv;simp only [Instr.loadAt,Instr.sureAddr,Sem.run_bind,Sem.run_pure,Result.andThen_ok] at h1;simp only [Tq,hg,asAddr,Sem.run_bind,Sem.run_pure,Result.andThen_ok,h1]
   ·cases h
  ·cases h
theorem Gv {K:ZI} {r:Rho} {s:St} {w:World} {e:Env} {a:Act} (hr:Rel r s w) (he:Qr K r e a):∀ (l:List ResultVar) {vs:List Zb},W5 e s (XN P l)=some vs ->
  ∃ us,(l.mapM (Tq a)).run P w = .ok us w/\VRs r vs us
 | [],vs,h=>by cases h; exact ⟨[],rfl,.nil⟩
 | x::l,vs,h=>by
  have h:Zaa (F4 e s (ZgJ P x)) (W5 e s (XN P l))=some vs:=h;cases h1:F4 e s (ZgJ P x) with
  | bad=>rw [h1] at h; cases h
  | ok v =>
   rw [h1] at h;cases h2:W5 e s (XN P l) with
   | none=>rw [h2] at h; cases h
   | some vs' =>
    rw [h2] at h;cases h;obtain ⟨u,h3,h4⟩:=Zb4 hr he h1;obtain ⟨us,h5,h6⟩:=Gv hr he l h2;refine ⟨u::us,?_,.cons h4 h6⟩;rw [List.mapM_cons];simp only [Sem.run_bind,h3,Result.andThen_ok,h5,Sem.run_pure]
theorem Ta {K:ZI} {r:Rho} {s:St} {w:World} {e:Env} {a:Act} (hr:Rel r s w) (he:Qr K r e a) {fn:Func} {v:Zb} (h:ZgK (W5 e s (XN P fn.results.toList)) = .ok v) :
  ∃ u,(results fn a.tmps).run P w = .ok u w/\VR r v u:=by
 cases h1:W5 e s (XN P fn.results.toList) with
 | none=>rw [h1] at h; cases h
 | some vs =>
  rw [h1] at h;obtain ⟨us,h2,h3⟩:=Gv hr he fn.results.toList h1
  have hm:(fn.results.mapM (Tq a)).run P w = .ok ⟨us⟩ w:=by
   rw [Array.mapM_eq_mapM_toList];simp only [Sem.run_map,h2];rfl
  have hres:(results fn a.tmps).run P w = .ok (if h:(⟨us⟩:Array Value).size=1 then (⟨us⟩:Array Value)[0] else .tuple ⟨us⟩) w:=by
   rw [Ep];simp only [Sem.run_bind,hm,Result.andThen_ok,Sem.run_pure]
  refine ⟨_,hres,?_⟩;cases h3 with
  | nil =>
   cases h;exact .tuple .nil
  | cons hv ht =>
   cases ht with
   | nil=>cases h; exact hv
   | cons hv2 ht2 =>
    cases h;exact .tuple (.cons hv (.cons hv2 ht2))
structure Xc (P:Program) (B:YG):Prop where
 fn:∀ f fn,B.fn f=some fn->P.funcs[f]? = some fn/\(fn.name== "runtime.NumGoroutine")=false
 reg:∀ f fn b,B.fn f=some fn->fn.body=some b->Qx (Za1 P ⟨fn.ntmps,B.Zf f⟩ (B.reg f)) b
 orc:∀ f g,B.orc f=some g->∀ (args:List Zb) (s:St) (v:Zb) (s':St),g.run args s = .ok v s'->∀ (r:Rho) (w:World) (us:List Value),Rel r s w->VRs r args us ->
  XX P f ⟨us⟩ w fun u w'=>∃ q,Ext r s w q s' w'/\VR q v u
theorem MW {l:List RV} {y:Res} {v:Zb} {s':St} (h:TK l y = .ok v s'):∃ x e,y = .ok x e s'/\(x = .normal\/x = .ret)/\ZgK (W5 e s' l) = .ok v:=by
 unfold TK at h;split at h
 ·obtain ⟨h1,rfl⟩:=Z5 h;exact ⟨_,_,rfl,.inl rfl,h1⟩
 ·obtain ⟨h1,rfl⟩:=Z5 h;exact ⟨_,_,rfl,.inr rfl,h1⟩
 ·cases h
theorem D2 {B:YG} (hB:Xc P B) {call:Zz} (hcall:Z3 P call) (aQ:∀ K,MU P call K) (fuel:Nat) :
  Z3 P (fun f args s=>MX P B call fuel f args s (B.orc f)):=by
 intro f args s v s' h r w us hr hv;have h:MX P B call fuel f args s (B.orc f) = .ok v s':=h;cases ho:B.orc f with
 | some g =>
  rw [ho] at h;exact hB.orc f g ho args s v s' h r w us hr hv
 | none =>
  rw [ho] at h;have h:RX P call (B.reg f) fuel args s (Zfw P call (B.Zf f) (B.reg f) (B.fn f)) = .ok v s':=h;cases hf:B.fn f with
  | none=>rw [hf] at h; cases h
  | some fn =>
   rw [hf] at h;cases hb:fn.body with
   | none =>
    have h:RX P call (B.reg f) fuel args s (fcB P call (B.Zf f) (B.reg f) fn fn.body) = .ok v s':=h;rw [hb] at h;cases h
   | some b =>
    have h:RX P call (B.reg f) fuel args s (fcB P call (B.Zf f) (B.reg f) fn fn.body) = .ok v s':=h;rw [hb] at h;have h:TK (XN P fn.results.toList) (Gt P call ⟨fn.ntmps,B.Zf f⟩ (B.reg f) fuel fuel (cc P call ⟨fn.ntmps,B.Zf f⟩ (B.reg f) b) (Wb ⟨fn.ntmps,B.Zf f⟩ 0 .lf args) s) = .ok v s':=h;obtain ⟨x,e,h1,h2,h3⟩:=MW h;obtain ⟨hfn,hname⟩:=hB.fn f fn hf;refine .inr ⟨?_,?_⟩
    ·have hname':fn.name≠ "runtime.NumGoroutine":=by simpa using hname
     simp [callFunc,hfn,hname',hb]
    ·refine calls_of_wp hfn hb (P4 hcall (aQ _) fuel b (hB.reg f fn b hf hb) _ s x e s' h1 r w _ _ hr (MV hv) fun q a' w' hx he => ?_);obtain ⟨u,h4,h5⟩:=Ta hx.rel he h3;rcases h2 with rfl | rfl
     ·exact ⟨he.defers,u,h4,u,rfl,q,hx,h5⟩
     ·exact ⟨he.defers,u,h4,u,rfl,q,hx,h5⟩
end Ev
namespace Ev
open Go
variable [Sig] {P:Program}
noncomputable def JB (K:ZI):List Oper->List Zb->Env->Env
 | o::rest,v::vs,e=>JB K rest vs (K9 e v (J9 K o))
 | _,_,e=>e
noncomputable def KG:List DI->List St->List St
 | d::ds,s::ss=>sel d.eff (s::KG ds ss) (KG ds ss)
 | _,_=>[]
def ZhQ (P:Program) (call:Zz) (K:ZI) (ops:Array Oper) (e0:Env) (j:Nat) (o:Oper) (al:Al) (l:List Zb) (s1:St) (v:Zb) (s2:St):Prop :=
 QC K o=true/\s1.next<=s2.next/\PZ s2.next v=true/\((wanted l e0 (guardOf (Jy j al) ops o) = .yes/\(comp (Jy j al) P call o.op).run l e0 s1 = .ok v s2)\/(wanted l e0 (guardOf (Jy j al) ops o) = .no/\v=QH/\s2=s1))
theorem Ze3 {go:List Zb->Env->St->List St->SH} {l l':List Zb} {e0 e e':Env} {s s':St} {ss ss':List St} {run:Cl} {d:Option (List Bool)} {g:Option (Qh×Bool)} {eff:Bool}
  (h:ZaC go l e0 e s ss (.mk run d g) eff = .ok l' e' s' ss') :
  ∃ v s1,s.next<=s1.next/\PZ s1.next v=true/\((wanted l e0 g = .yes/\run.run l e0 s = .ok v s1)\/(wanted l e0 g = .no/\v=QH/\s1=s))/\go (v::l) (K9 e v d) s1 (sel eff (s::ss) ss) = .ok l' e' s' ss':=by
 have h:@Wt.rec (fun _=>SH) (@R.rec (fun _=>SH) (fun v s'=>sel (Bool.and (Nat.ble s.next s'.next) (PZ s'.next v)) (go (v::l) (K9 e v d) s' (sel eff (s::ss) ss)) .bad) .bad (run.run l e0 s))
  (go (QH::l) (K9 e QH d) s (sel eff (s::ss) ss)) .bad (wanted l e0 g) = .ok l' e' s' ss':=h
 cases hw:wanted l e0 g with
 | yes =>
  rw [hw] at h;cases hr:run.run l e0 s with
  | bad=>rw [hr] at h; cases h
  | ok v s1 =>
   rw [hr] at h;have h:sel (Bool.and (Nat.ble s.next s1.next) (PZ s1.next v)) (go (v::l) (K9 e v d) s1 (sel eff (s::ss) ss)) .bad = .ok l' e' s' ss':=h;cases hb:Bool.and (Nat.ble s.next s1.next) (PZ s1.next v)
   ·rw [hb] at h; cases h
   ·rw [hb] at h;rw [Bool.and_eq_true] at hb;exact ⟨v,s1,Qj hb.1,hb.2,.inl ⟨rfl,rfl⟩,h⟩
 | no=>rw [hw] at h; exact ⟨QH,s,Nat.le_refl _,rfl,.inr ⟨rfl,rfl,rfl⟩,h⟩
 | bad=>rw [hw] at h; cases h
theorem trace {call:Zz} {K:ZI} {ops:Array Oper} {ah:List DI} {e0:Env}:∀ (rest:List Oper) (ds:List DI) (n:Nat) (al:Al) (l L:List Zb) (e E:Env) (s S:St) (ss SS:List St),ds.length=rest.length ->
  LU e0 (Qq P call K ops ah rest ds n al) l e s ss = .ok L E S SS ->
  ∃ (vs:List Zb) (aL:List St),vs.length=rest.length/\aL.length=rest.length/\L=vs.reverse++l/\E=JB K rest vs e/\SS=(KG ds aL).reverse++ss/\(aL++[S])[0]? = some s /\
   ∀ k o,rest[k]? = some o->∃ v s1 s2,vs[k]? = some v/\aL[k]? = some s1/\(aL++[S])[k+1]? = some s2/\ZhQ P call K ops e0 (n+k) o (Xs rest n al k) ((vs.take k).reverse++l) s1 v s2
 | [],ds,n,al,l,L,e,E,s,S,ss,SS,hd,h=>by
  cases h;refine ⟨[],[],rfl,rfl,rfl,rfl,?_,rfl,fun k o hk=>by simp at hk⟩;cases ds with
  | nil=>rfl
  | cons d ds=>cases hd
 | o::rest,[],n,al,l,L,e,E,s,S,ss,SS,hd,h=>by cases hd
 | o::rest,d::ds,n,al,l,L,e,E,s,S,ss,SS,hd,h=>by
  cases hdi:QC K o
  ·have h:ZaC (LU e0 (Qq P call K ops ah rest ds (n+1) (Qi n al o))) l e0 e s ss (Y0 P call K ops n al o) d.eff = .ok L E S SS:=h;unfold Y0 at h;rw [hdi] at h;cases h
  ·have h:ZaC (LU e0 (Qq P call K ops ah rest ds (n+1) (Qi n al o))) l e0 e s ss (Y0 P call K ops n al o) d.eff = .ok L E S SS:=h;unfold Y0 at h;rw [hdi] at h;obtain ⟨v,s1,h1,hlow,h2,h3⟩:=Ze3 h;obtain ⟨vs,aL,h4,h5,h6,h7,h8,h9,h10⟩:=trace rest ds (n+1) (Qi n al o) (v::l) L _ E s1 S _ SS (by simpa using hd) h3;refine ⟨v::vs,s::aL,by rw [List.length_cons,List.length_cons,h4],by rw [List.length_cons,List.length_cons,h5],by rw [h6]; simp,h7,?_,rfl,fun k o' hk => ?_⟩
   ·rw [h8];show _=(sel d.eff (s::KG ds aL) (KG ds aL)).reverse++ss;cases d.eff
    ·rfl
    ·show (KG ds aL).reverse++(s::ss)=(s::KG ds aL).reverse++ss;simp
   ·cases k with
    | zero =>
     cases hk;exact ⟨v,s,s1,rfl,rfl,h9,hdi,h1,hlow,h2⟩
    | succ k =>
     obtain ⟨v',t1,t2,g1,g2,g3,g4⟩:=h10 k o' hk;refine ⟨v',t1,t2,g1,g2,g3,?_⟩;have e1:n+1+k=n+(k+1):=by omega
     have e2:(vs.take k).reverse++(v::l)=((v::vs).take (k+1)).reverse++l:=by simp
     rw [e1,e2] at g4;exact g4
end Ev
namespace Ev
open Go
variable [Sig] {P:Program}
theorem PD:∀ (rest:List Oper) (n:Nat) (al:Al) (k:Nat) {o:Oper},rest[k]? = some o->Xs rest n al (k+1)=Qi (n+k) (Xs rest n al k) o
 | [],n,al,k,o,h=>by simp at h
 | x::rest,n,al,0,o,h=>by
  cases h;cases rest <;> rfl
 | x::rest,n,al,k+1,o,h=>by
  have:=PD rest (n+1) (Qi n al x) k h;rw [show n+1+k=n+(k+1) by omega] at this;exact this
def ZT (ops:List Oper) (j:Nat):Option Tmp:=(ops[j]?).bind (·.dst)
theorem Ts (ops:List Oper) (n:Nat) (t:Tmp):∀ (j:Nat),j<=ops.length ->
  (∃ i,i<j/\ZT ops i=some t/\(∀ k,i<k->k<j->ZT ops k≠some t)/\Z0 n (Xs ops 0 .nil j) t = .loc (n-1-i)) \/
  ((∀ k,k<j->ZT ops k≠some t)/\Z0 n (Xs ops 0 .nil j) t = .tmp (bits t))
 | 0,_ => .inr ⟨fun k h=>by omega,by cases ops <;> rfl⟩
 | j+1,h=>by
  have hj:ops[j]? = some ops[j]:=List.getElem?_eq_getElem (by omega);have hs:=PD ops 0 .nil j hj;rw [Nat.zero_add] at hs;have hd:ZT ops j=ops[j].dst:=by unfold ZT; rw [hj]; rfl
  rw [hs];unfold Qi;cases ho:ops[j].dst with
  | none =>
   rcases Ts ops n t j (by omega) with ⟨i,h1,h2,h3,h4⟩ | ⟨h1,h2⟩
   ·refine .inl ⟨i,by omega,h2,fun k hk hkj => ?_,h4⟩;by_cases e:k=j
    ·subst e; rw [hd,ho]; exact fun h=>by cases h
    ·exact h3 k hk (by omega)
   ·refine .inr ⟨fun k hk => ?_,h2⟩;by_cases e:k=j
    ·subst e; rw [hd,ho]; exact fun h=>by cases h
    ·exact h1 k (by omega)
  | some d =>
   by_cases htd:t=d
   ·subst htd;refine .inl ⟨j,by omega,by rw [hd,ho],fun k hk hkj=>by omega,?_⟩;simp only [Z0,mH];rfl
   ·have hne:ZT ops j≠some t:=by rw [hd,ho]; exact fun h=>htd (by cases h; rfl)
    rcases Ts ops n t j (by omega) with ⟨i,h1,h2,h3,h4⟩ | ⟨h1,h2⟩
    ·refine .inl ⟨i,by omega,h2,fun k hk hkj => ?_,?_⟩
     ·by_cases e:k=j
      ·subst e; exact hne
      ·exact h3 k hk (by omega)
     ·simp only [Z0,Ze0 htd];exact h4
    ·refine .inr ⟨fun k hk => ?_,?_⟩
     ·by_cases e:k=j
      ·subst e; exact hne
      ·exact h1 k (by omega)
     ·simp only [Z0,Ze0 htd];exact h2
theorem N8 {ops:List Oper} {vs:List Zb} {e0:Env} {j:Nat} (hj:j<=ops.length) (hv:vs.length=ops.length) {t:Tmp} {v:Zb} (h:Zl (vs.take j).reverse e0 (Z0 j (Xs ops 0 .nil j) t) = .ok v) :
  (∃ i,i<j/\ZT ops i=some t/\(∀ k,i<k->k<j->ZT ops k≠some t)/\vs[i]? = some v)\/((∀ k,k<j->ZT ops k≠some t)/\e0.get t=some v):=by
 rcases Ts ops j t j hj with ⟨i,h1,h2,h3,h4⟩ | ⟨h1,h2⟩
 ·rw [h4] at h;have h:=T7 _ (h:Kt (j-1-i) (vs.take j).reverse = .ok v);refine .inl ⟨i,h1,h2,h3,?_⟩;rw [List.getElem?_reverse (by rw [List.length_take]; omega),List.length_take,List.getElem?_take] at h;have e1:min j vs.length-1-(j-1-i)=i:=by omega
  rw [e1,if_pos h1] at h;exact h
 ·rw [h2] at h;exact .inr ⟨h1,FT h⟩
def XS (bG:List Nat) (j i:Nat):Prop:=∃ b,bG[j]? = some b/\Nat.testBit b i=true
theorem IG:∀ (l:List Nat) (n:Nat),ZbY l n=(l[n]?).getD 0
 | [],n=>by cases n <;> rfl
 | a::l,0=>rfl
 | a::l,n+1=>by
  show ZbY l n=_;rw [IG l n];simp
theorem N9 (acc:List Nat) (i:Nat):∀ (es:List Edge),Nat.testBit (Ry acc es) i=true->∃ e∈es,Region.binds .any e=true/\(e.on=i\/XS acc e.on i)
 | [],h=>by simp [Ry] at h
 | e::es,h=>by
  simp only [Ry] at h;cases hb:Region.binds .any e
  ·rw [hb] at h;obtain ⟨e',h1,h2⟩:=N9 acc i es h;exact ⟨e',List.mem_cons_of_mem _ h1,h2⟩
  ·rw [hb] at h;have h:Nat.testBit (Nat.lor (Nat.lor (Nat.pow 2 e.on) (ZbY acc e.on)) (Ry acc es)) i=true:=h;have h:(2^e.on|||ZbY acc e.on|||Ry acc es).testBit i=true:=h;rw [Nat.testBit_or,Nat.testBit_or,Bool.or_eq_true,Bool.or_eq_true] at h;rcases h with (h | h) | h
   ·rw [Nat.testBit_two_pow] at h;exact ⟨e,List.mem_cons_self ..,hb,.inl (by simpa using h)⟩
   ·refine ⟨e,List.mem_cons_self ..,hb,.inr ?_⟩;rw [IG] at h;cases ha:acc[e.on]? with
    | none=>rw [ha] at h; simp at h
    | some b=>rw [ha] at h; exact ⟨b,ha,h⟩
   ·obtain ⟨e',h1,h2⟩:=N9 acc i es h;exact ⟨e',List.mem_cons_of_mem _ h1,h2⟩
theorem YB:∀ (l:List Oper) (acc:List Nat),∃ t,Zw l acc=acc++t/\t.length=l.length
 | [],acc=>⟨[],by simp [Zw],rfl⟩
 | o::l,acc=>by
  obtain ⟨t,h1,h2⟩:=YB l (acc++[Ry acc o.after.toList]);exact ⟨Ry acc o.after.toList::t,by simp only [Zw]; rw [h1]; simp,by simp [h2]⟩
theorem BB:∀ (l:List Oper) (acc:List Nat) (k:Nat) {o:Oper},l[k]? = some o->(Zw l acc)[acc.length+k]? = some (Ry ((Zw l acc).take (acc.length+k)) o.after.toList)
 | [],acc,k,o,h=>by simp at h
 | x::l,acc,0,o,h=>by
  cases h;obtain ⟨t,h1,h2⟩:=YB l (acc++[Ry acc x.after.toList]);simp only [Zw];rw [h1];have e1:(acc++[Ry acc x.after.toList]++t).take (acc.length+0)=acc:=by simp
  rw [e1,Nat.add_zero];simp
 | x::l,acc,k+1,o,h=>by
  have:=BB l (acc++[Ry acc x.after.toList]) k (o:=o) h;rw [List.length_append,List.length_singleton,show acc.length+1+k=acc.length+(k+1) by omega] at this;exact this
theorem Zb5 {bG:List Nat} {j e i:Nat} (h:XS (bG.take j) e i):XS bG e i:=by
 obtain ⟨b,h1,h2⟩:=h;rw [List.getElem?_take] at h1;split at h1
 ·exact ⟨b,h1,h2⟩
 ·cases h1
def F8 (bG:List Nat) (D:Nat->Prop):Prop:=∀ j,D j->∀ i,XS bG j i->D i
theorem RE {ops:List Oper} {D:Nat->Prop} (hD:F8 (Zw ops []) D) {j:Nat} {o:Oper} (ho:ops[j]? = some o) (hr:∀ e∈o.after.toList,Region.binds .any e=true->D e.on) :
  ∀ i,XS (Zw ops []) j i->D i:=by
 intro i hi;obtain ⟨b,h1,h2⟩:=hi;have h3:=BB ops [] j ho;rw [List.length_nil,Nat.zero_add,h1] at h3;cases h3;obtain ⟨e,h4,h5,h6⟩:=N9 _ i _ h2;rcases h6 with rfl | h6
 ·exact hr e h4 h5
 ·exact hD _ (hr e h4 h5) i (Zb5 h6)
theorem La {P:Program} {ops:Array Oper}:∀ (l:List Oper) (bG:List Nat) (j:Nat) {o:Oper} {b:Nat},l[j]? = some o->bG[j]? = some b->(Q0 P ops l bG)[j]? = some (NX P ops o b)
 | [],_,_,_,_,h,_=>by simp at h
 | x::l,[],j,_,_,_,h=>by simp at h
 | x::l,b::bG,0,_,_,h,k=>by cases h; cases k; rfl
 | x::l,b::bG,j+1,_,_,h,k=>La l bG j h k
theorem W6 {P:Program} {ops:Array Oper}:∀ (l:List Oper) (bG:List Nat),bG.length=l.length->(Q0 P ops l bG).length=l.length
 | [],_,_=>rfl
 | x::l,[],h=>by cases h
 | x::l,b::bG,h=>by
  show (NX P ops x b::Q0 P ops l bG).length=_;rw [List.length_cons,W6 l bG (by simpa using h),List.length_cons]
theorem BC {y:DI}:∀ (pre:List DI) (i:Nat),NY y pre i=true->∀ (k:Nat) (x:DI),pre[k]? = some x->Xw x y=true->Nat.testBit y.bf (i+k)=true
 | [],_,_,k,x,h,_=>by simp at h
 | z::pre,i,h,k,x,hk,hc=>by
  simp only [NY] at h;cases k with
  | zero =>
   cases hk;rw [hc] at h;have h:sel (Nat.testBit y.bf i) (NY y pre (i+1)) false=true:=h;rcases Ze h with ⟨h1,_⟩ | ⟨_,h1⟩
   ·rw [Nat.add_zero]; exact h1
   ·cases h1
  | succ k =>
   have h1:NY y pre (i+1)=true:=by
    rcases Ze h with ⟨_,h1⟩ | ⟨_,h1⟩
    ·rcases Ze h1 with ⟨_,h2⟩ | ⟨_,h2⟩
     ·exact h2
     ·cases h2
    ·exact h1
   have:=BC pre (i+1) h1 k x hk hc;rw [show i+1+k=i+(k+1) by omega] at this;exact this
theorem KH:∀ (l pre:List DI),Yx pre l=true->∀ (j:Nat) (y:DI),l[j]? = some y->∀ (i:Nat) (x:DI),(pre++l)[i]? = some x->i<pre.length+j->Xw x y=true->Nat.testBit y.bf i=true
 | [],_,_,j,y,h,_,_,_,_,_=>by simp at h
 | z::l,pre,h,j,y,hj,i,x,hi,hlt,hc=>by
  simp only [Yx] at h;rcases Ze h with ⟨h1,h2⟩ | ⟨_,h2⟩
  ·cases j with
   | zero =>
    cases hj;rw [List.getElem?_append_left (by omega)] at hi;have:=BC pre 0 h1 i x hi hc;rw [Nat.zero_add] at this;exact this
   | succ j =>
    refine KH l (pre++[z]) h2 j y hj i x (by rw [List.append_assoc]; exact hi) ?_ hc;rw [List.length_append,List.length_singleton];omega
  ·cases h2
end Ev
namespace Ev
open Go
variable [Sig] {P:Program}
def cnt:List DI->Nat->Nat
 | [],_=>0
 | _::_,0=>0
 | x::l,p+1=>(if x.eff=true then 1 else 0)+cnt l p
theorem lo_le (bf:Nat):∀ (l:List DI) (i p:Nat),(∀ k x,l[k]? = some x->x.eff=true->Nat.testBit bf (i+k)=true->k<p)->NZ bf l i<=cnt l p
 | [],i,p,h=>Nat.le_refl _
 | x::l,i,p,h=>by
  simp only [NZ];cases hc:Bool.and x.eff (Nat.testBit bf i)
  ·show NZ bf l (i+1)<=_;cases p with
   | zero =>
    refine Nat.le_trans (lo_le bf l (i+1) 0 fun k y hk he hb => ?_) (by cases l <;> exact Nat.le_refl _);have:=h (k+1) y hk he (by rw [show i+(k+1)=i+1+k by omega]; exact hb);omega
   | succ p =>
    have:=lo_le bf l (i+1) p fun k y hk he hb=>by
     have:=h (k+1) y hk he (by rw [show i+(k+1)=i+1+k by omega]; exact hb);omega
    simp only [cnt];omega
  ·show NZ bf l (i+1)+1<=_;rw [Bool.and_eq_true] at hc;have h0:=h 0 x rfl hc.1 (by rw [Nat.add_zero]; exact hc.2);cases p with
   | zero=>omega
   | succ p =>
    have:=lo_le bf l (i+1) p fun k y hk he hb=>by
     have:=h (k+1) y hk he (by rw [show i+(k+1)=i+1+k by omega]; exact hb);omega
    simp only [cnt,hc.1,if_true];omega
theorem ZhR (j:Nat):∀ (l:List DI) (p:Nat),(∀ k x,l[k]? = some x->k<p->x.eff=true->Nat.testBit x.bf j=false)->cnt l p<=N0 j l
 | [],p,h=>Nat.le_refl _
 | x::l,0,h=>Nat.zero_le _
 | x::l,p+1,h=>by
  have ih:=ZhR j l p fun k y hk hp he=>h (k+1) y hk (by omega) he;simp only [cnt,N0];cases he:x.eff
  ·show (if false=true then 1 else 0)+cnt l p<=N0 j l;simpa using ih
  ·have:=h 0 x rfl (by omega) he;rw [this];show (if true=true then 1 else 0)+cnt l p<=N0 j l+1;simp;omega
theorem BD (S:St):∀ (ds:List DI) (aL:List St) (p:Nat),ds.length=aL.length->(p=ds.length\/∃ x,ds[p]? = some x/\x.eff=true)->(KG ds aL++[S])[cnt ds p]? = (aL++[S])[p]?
 | [],[],p,_,h=>by
  rcases h with rfl | ⟨x,h,_⟩
  ·rfl
  ·simp at h
 | [],_::_,_,h,_=>by cases h
 | _::_,[],_,h,_=>by cases h
 | d::ds,s::aL,0,h,hp=>by
  rcases hp with h0 | ⟨x,h0,h1⟩
  ·cases h0
  ·cases h0;show (sel d.eff (s::KG ds aL) (KG ds aL)++[S])[0]? = _;rw [h1];rfl
 | d::ds,s::aL,p+1,h,hp=>by
  have ih:=BD S ds aL p (by simpa using h) (by
   rcases hp with h0 | ⟨x,h0,h1⟩
   ·exact .inl (by simpa using h0)
   ·exact .inr ⟨x,h0,h1⟩)
  show (sel d.eff (s::KG ds aL) (KG ds aL)++[S])[(if d.eff=true then 1 else 0)+cnt ds p]? = _;cases d.eff
  ·show (KG ds aL++[S])[(if false=true then 1 else 0)+cnt ds p]? = (aL++[S])[p]?;simpa using ih
  ·show (s::(KG ds aL++[S]))[(if true=true then 1 else 0)+cnt ds p]? = (aL++[S])[p]?;rw [if_pos rfl,Nat.add_comm,List.getElem?_cons_succ];exact ih
mutual
theorem QO:∀ (a b:Zb),XL a b=true->a=b
 | .bool a,b,h=>by
  cases b <;> first | (cases h; done) | (have h:Nj _ _=true:=h; rw [T8] at h; rw [eq_of_beq h])
 | .gho i t,b,h=>by
  cases b with
  | gho j u =>
   have h:Bool.and (Nat.beq i j) (Nat.beq t u)=true:=h;rw [Bool.and_eq_true] at h;rw [Nat.eq_of_beq_eq_true h.1,Nat.eq_of_beq_eq_true h.2]
  | _=>cases h
 | .int j a,b,h=>by
  cases b <;> first
   | (cases h; done)
   | (have h:Bool.and (keq _ _) (ieq _ _)=true:=h; rw [Bool.and_eq_true,QP] at h; rw [JD h.1,eq_of_beq h.2])
 | .flt j a,b,h=>by
  cases b <;> first
   | (cases h; done)
   | (have h:Bool.and (G6 _ _) (Nat.beq _ _)=true:=h; rw [Bool.and_eq_true] at h; rw [T9 h.1,ZE h.2])
 | .Z2 j a c,b,h=>by
  cases b <;> first
   | (cases h; done)
   | (have h:Bool.and (G6 _ _) (Bool.and (Nat.beq _ _) (Nat.beq _ _))=true:=h; rw [Bool.and_eq_true,Bool.and_eq_true] at h; rw [T9 h.1,ZE h.2.1,ZE h.2.2])
 | .str a,b,h=>by
  cases b <;> first
   | (cases h; done)
   | (have h:QG _ _=true:=h; rw [Qo] at h; rw [eq_of_beq h])
 | .Zo,b,h=>by cases b <;> first | rfl | cases h
 | .ptr i a,b,h=>by
  cases b <;> first
   | (cases h; done)
   | (have h:Bool.and (Nat.beq _ _) (Nat.beq _ _)=true:=h; rw [Bool.and_eq_true] at h; rw [ZE h.1,ZE h.2])
 | .Za,b,h=>by cases b <;> first | rfl | cases h
 | .Z4,b,h=>by cases b <;> first | rfl | cases h
 | .slice i a n c,b,h=>by
  cases b with
  | slice j b m d =>
   cases c <;> cases d
   ·have h:Bool.and (Nat.beq _ _) (Bool.and (Nat.beq _ _) (Nat.beq _ _))=true:=h;rw [Bool.and_eq_true,Bool.and_eq_true] at h;rw [ZE h.1,ZE h.2.1,ZE h.2.2]
   ·cases h
   ·cases h
   ·have h:Bool.and (Nat.beq _ _) (Bool.and (Nat.beq _ _) (Bool.and (Nat.beq _ _) (Nat.beq _ _)))=true:=h;rw [Bool.and_eq_true,Bool.and_eq_true,Bool.and_eq_true] at h;rw [ZE h.1,ZE h.2.1,ZE h.2.2.1,ZE h.2.2.2]
  | _=>cases c <;> cases h
 | .Zk,b,h=>by cases b <;> first | rfl | cases h
 | .map i,b,h=>by
  cases b <;> first
   | (cases h; done)
   | (have h:Nat.beq _ _=true:=h; rw [ZE h])
 | .func f a c,b,h=>by
  cases b with
  | func g a' c' =>
   have h:Bool.and (Nat.beq f g) (Bool.and (JP a a') (JP c c'))=true:=h;rw [Bool.and_eq_true,Bool.and_eq_true] at h;rw [ZE h.1,JZ a a' h.2.1,JZ c c' h.2.2]
  | _=>cases h
 | .ZJ,b,h=>by cases b <;> first | rfl | cases h
 | .nilIface,b,h=>by cases b <;> first | rfl | cases h
 | .iface t a,b,h=>by
  cases b with
  | iface u b =>
   have h:Bool.and (Nat.beq t u) (XL a b)=true:=h;rw [Bool.and_eq_true] at h;rw [ZE h.1,QO a b h.2]
  | _=>cases h
 | .agg a,b,h=>by
  cases b with
  | agg b=>rw [JZ a b h]
  | _=>cases h
 | .tuple a,b,h=>by
  cases b with
  | tuple b=>rw [JZ a b h]
  | _=>cases h
 | .sint j c a b,x,h=>by
  cases x with
  | sint k d e f =>
   have h:Bool.and (keq _ _) (Bool.and (ieq _ _) (Bool.and (ieq _ _) (ieq _ _)))=true:=h;rw [Bool.and_eq_true,Bool.and_eq_true,Bool.and_eq_true,QP,QP,QP] at h;rw [JD h.1,eq_of_beq h.2.1,eq_of_beq h.2.2.1,eq_of_beq h.2.2.2]
  | _=>cases h
 | .raw a,b,h=>by
  cases b <;> first | (cases h; done) | (have h:Nj _ _=true:=h; rw [T8] at h; rw [eq_of_beq h])
theorem JZ:∀ (a b:List Zb),JP a b=true->a=b
 | [],[],_=>rfl
 | [],_::_,h=>by simp [JP] at h
 | _::_,[],h=>by simp [JP] at h
 | x::xs,y::ys,h=>by
  simp only [JP,Bool.and_eq_true] at h;rw [QO x y h.1,JZ xs ys h.2]
end
end Ev
namespace Ev
open Go
variable [Sig] {P:Program} {X:Nat->Nat->Prop}
def F9 (ops:Array Oper) (o:Oper):List Tmp:=NW o.op.operands.toList++Rx ops o
def Ju (P:Program) (ops:Array Oper) (j:Nat):Prop:=∃ o,ops.toList[j]? = some o/\(WD P o.op).isE=true
structure Q9 (X:Nat->Nat->Prop) (P:Program) (call:Zz) (K:ZI) (ops:Array Oper) (e0:Env) (vs:List Zb) (st:Nat->St):Prop where
 len:vs.length=ops.toList.length
 step:∀ j o,ops.toList[j]? = some o->∃ v,vs[j]? = some v/\ZhQ P call K ops e0 j o (Xs ops.toList 0 .nil j) (vs.take j).reverse (st j) v (st (j+1))
 back:∀ j o,ops.toList[j]? = some o->∀ e∈o.after.toList,Region.binds .any e=true->e.on<j
 reads:∀ i j o t,ops.toList[j]? = some o->t∈F9 ops o->ZT ops.toList i=some t->(i<j->XS (Zw ops.toList []) j i)/\(j<i->XS (Zw ops.toList []) i j)
 writes:∀ i j t,i<j->ZT ops.toList i=some t->ZT ops.toList j=some t->XS (Zw ops.toList []) j i
 V5:∀ i j,i<j->¬ X i j->Ju P ops i->Ju P ops j->XS (Zw ops.toList []) j i
 look:∀ j o v,ops.toList[j]? = some o->WD P o.op = .look->vs[j]? = some v->wanted (vs.take j).reverse e0 (guardOf (Jy j (Xs ops.toList 0 .nil j)) ops o) = .yes ->
  ∀ p,(p=ops.toList.length\/Ju P ops p)->(∀ i,Ju P ops i->XS (Zw ops.toList []) j i->i<p)->(∀ i,Ju P ops i->i<p->¬ XS (Zw ops.toList []) i j) ->
   ∃ s',(comp (Jy j (Xs ops.toList 0 .nil j)) P call o.op).run (vs.take j).reverse e0 (st p) = .ok v s'
theorem Wq {n:Nat}:∀ {l:List Nat},WK n l=true↔n∈l
 | []=>by simp [WK]
 | m::l=>by
  rw [TD];simp
theorem ZaI {o:Option Tmp} {l:List Tmp}:inO o l=true↔∃ t,o=some t/\t∈l:=by
 cases o with
 | none=>simp [inO]
 | some t=>simp [inO,Wq]
theorem Da {x y:DI} {t:Tmp} (h:x.dst=some t) (hm:t∈y.names):Xw x y=true:=by
 unfold Xw;rw [show inO x.dst y.names=true from ZaI.2 ⟨t,h,hm⟩];rfl
theorem Db {x y:DI} {t:Tmp} (h:y.dst=some t) (hm:t∈x.names):Xw x y=true:=by
 unfold Xw;rw [show inO y.dst x.names=true from ZaI.2 ⟨t,h,hm⟩];cases inO x.dst y.names <;> rfl
theorem Dc {x y:DI} {t:Tmp} (h:x.dst=some t) (k:y.dst=some t):Xw x y=true:=by
 unfold Xw;have:ZeO x.dst y.dst=true:=by rw [h,k]; exact mH
 rw [this];cases inO x.dst y.names <;> cases inO y.dst x.names <;> rfl
theorem Lb {x y:DI} (h:x.eff=true) (k:y.eff=true):Xw x y=true:=by
 unfold Xw;rw [h,k];cases inO x.dst y.names <;> cases inO y.dst x.names <;> cases ZeO x.dst y.dst <;> rfl
theorem Tt {i:Nat}:∀ {es:List Edge},Rz i es=true->∀ e∈es,Region.binds .any e=true->e.on<i
 | [],_,_,h,_=>by cases h
 | e::es,h,e',he,hb=>by
  simp only [Rz] at h;rcases Ze h with ⟨h1,h2⟩ | ⟨h1,h2⟩
  ·rcases Ze h2 with ⟨h3,h4⟩ | ⟨_,h4⟩
   ·rcases List.mem_cons.1 he with rfl | he
    ·exact QI h3
    ·exact Tt h4 e' he hb
   ·cases h4
  ·rcases List.mem_cons.1 he with rfl | he
   ·rw [h1] at hb; cases hb
   ·exact Tt h2 e' he hb
theorem Gw:∀ (l:List Oper) (i:Nat),Tp l i=true->∀ k o,l[k]? = some o->∀ e∈o.after.toList,Region.binds .any e=true->e.on<i+k
 | [],_,_,k,o,h,_,_,_=>by simp at h
 | x::l,i,h,k,o,hk,e,he,hb=>by
  simp only [Tp] at h;rcases Ze h with ⟨h1,h2⟩ | ⟨_,h2⟩
  ·cases k with
   | zero=>cases hk; rw [Nat.add_zero]; exact Tt h1 e he hb
   | succ k =>
    have:=Gw l (i+1) h2 k o hk e he hb;omega
  ·cases h2
theorem Lc {f:St->R} {v:Zb} {lo hi:Nat}:∀ (ss:List St) (m:Nat),looksAt f v lo hi ss m=true->∀ k s,ss[k]? = some s->lo<=m+k->m+k<=hi->∃ s',f s = .ok v s'
 | [],_,_,k,s,h,_,_=>by simp at h
 | t::ss,m,h,k,s,hk,h1,h2=>by
  simp only [looksAt] at h;cases k with
  | zero =>
   cases hk
   have hc:Bool.and (Nat.ble lo m) (Nat.ble m hi)=true:=by
    rw [Bool.and_eq_true];exact ⟨Nat.ble_eq_true_of_le h1,Nat.ble_eq_true_of_le h2⟩
   rw [hc] at h;have h:sel (xU v (f t)) (looksAt f v lo hi ss (m+1)) false=true:=h;rcases Ze h with ⟨h3,_⟩ | ⟨_,h3⟩
   ·unfold xU at h3;split at h3
    ·rename_i u s' hf;rw [<- QO _ _ h3];exact ⟨s',hf⟩
    ·cases h3
   ·cases h3
  | succ k =>
   have hn:looksAt f v lo hi ss (m+1)=true:=by
    rcases Ze h with ⟨_,h3⟩ | ⟨_,h3⟩
    ·rcases Ze h3 with ⟨_,h4⟩ | ⟨_,h4⟩
     ·exact h4
     ·cases h4
    ·exact h3
   exact Lc ss (m+1) hn k s hk (by omega) (by omega)
theorem BE {call:Zz} {K:ZI} {ops:Array Oper} {ah:List DI} {e0:Env} {SS:List St}:∀ (rest:List Oper) (ds:List DI) (n:Nat) (al:Al) (vs l:List Zb),ds.length=rest.length ->
  looks e0 SS (Qq P call K ops ah rest ds n al) vs l=true ->
  ∀ k o v d,rest[k]? = some o->vs[k]? = some v->ds[k]? = some d->d.look=true->QC K o=true ->
   wanted ((vs.take k).reverse++l) e0 (guardOf (Jy (n+k) (Xs rest n al k)) ops o) = .yes ->
   looksAt ((comp (Jy (n+k) (Xs rest n al k)) P call o.op).run ((vs.take k).reverse++l) e0) v (NZ d.bf ah 0) (N0 (n+k) ah) SS 0=true
 | [],_,_,_,_,_,_,_,k,o,_,_,h,_,_,_,_,_=>by simp at h
 | x::rest,[],n,al,vs,l,h,_,_,_,_,_,_,_,_,_,_,_=>by cases h
 | x::rest,d::ds,n,al,[],l,hl,h,k,o,v,d',hk,hv,_,_,_,_=>by simp at hv
 | x::rest,d::ds,n,al,u::vs,l,hl,h,k,o,v,d',hk,hv,hd,hlk,hdi,hw=>by
  have h:sel d.look (sel (ZeQ l e0 u (NZ d.bf ah 0) (N0 n ah) SS (Y0 P call K ops n al x)) (looks e0 SS (Qq P call K ops ah rest ds (n+1) (Qi n al x)) vs (u::l)) false)
   (looks e0 SS (Qq P call K ops ah rest ds (n+1) (Qi n al x)) vs (u::l))=true:=h
  cases k with
  | zero =>
   cases hk;cases hv;cases hd;rw [hlk] at h;have h:sel (ZeQ l e0 u (NZ d.bf ah 0) (N0 n ah) SS (Y0 P call K ops n al x)) (looks e0 SS (Qq P call K ops ah rest ds (n+1) (Qi n al x)) vs (u::l)) false=true:=h;rcases Ze h with ⟨h1,_⟩ | ⟨_,h1⟩
   ·unfold Y0 at h1;rw [hdi] at h1;have h1:@Wt.rec (fun _=>Bool) (looksAt ((comp (Jy n al) P call x.op).run l e0) u (NZ d.bf ah 0) (N0 n ah) SS 0) true false (wanted l e0 (guardOf (Jy n al) ops x))=true:=h1;have hw:wanted l e0 (guardOf (Jy n al) ops x) = .yes:=hw;rw [hw] at h1;exact h1
   ·cases h1
  | succ k =>
   have hn:looks e0 SS (Qq P call K ops ah rest ds (n+1) (Qi n al x)) vs (u::l)=true:=by
    rcases Ze h with ⟨_,h3⟩ | ⟨_,h3⟩
    ·rcases Ze h3 with ⟨_,h4⟩ | ⟨_,h4⟩
     ·exact h4
     ·cases h4
    ·exact h3
   have e1:n+1+k=n+(k+1):=by omega
   have e2:(vs.take k).reverse++(u::l)=((u::vs).take (k+1)).reverse++l:=by simp
   have:=BE rest ds (n+1) (Qi n al x) vs (u::l) (by simpa using hl) hn k o v d' hk hv hd hlk hdi (by rw [e1,e2]; exact hw);rw [e1,e2] at this;exact this
theorem Ze4 (ops:List Oper) {j:Nat} (h:j<ops.length):∃ b,(Zw ops [])[j]? = some b:=by
 obtain ⟨t,h1,h2⟩:=YB ops [];rw [h1,List.nil_append];exact ⟨t[j],List.getElem?_eq_getElem (by omega)⟩
theorem Ld (ops:List Oper):(Zw ops []).length=ops.length:=by
 obtain ⟨t,h1,h2⟩:=YB ops [];rw [h1,List.nil_append,h2]
theorem Gx {x y:DI} (h:Xw x (LV y)=true):Xw x y=true:=by
 unfold Xw at h ⊢;have e1:(LV y).names=y.names:=rfl;have e2:(LV y).dst=y.dst:=rfl;have e3:(LV y).eff=false:=rfl;rw [e1,e2,e3] at h;rcases Ze h with ⟨g,_⟩ | ⟨g,h⟩
 ·rw [g]; rfl
 ·rw [g];rcases Ze h with ⟨g,_⟩ | ⟨g,h⟩
  ·rw [g]; rfl
  ·rw [g];rcases Ze h with ⟨g,_⟩ | ⟨g,h⟩
   ·rw [g]; rfl
   ·rw [Bool.and_false] at h; cases h
theorem Gy {call:Zz} {K:ZI} {ops:Array Oper} {e0 e':Env} {s s':St} {x:Ex} {ah:List DI} (fH:Q0 P ops ops.toList (Zw ops.toList [])=ah) {L:List Zb} {E:Env} {S:St} {SS:List St}
  (hr:LU e0 (Qq P call K ops ah ops.toList ah 0 .nil) [] e0 s [] = .ok L E S SS) (h:N1 e0 (Qq P call K ops ah ops.toList ah 0 .nil) (.ok L E S SS) = .ok x e' s') (hback:Tp ops.toList 0=true)
  (hcl0:∀ i j x y,i<j->ah[i]? = some x->ah[j]? = some y->Xw x (LV y)=true->Nat.testBit y.bf i=true)
  (xV:∀ i j x y,i<j->¬ X i j->ah[i]? = some x->ah[j]? = some y->x.eff=true->y.eff=true->Nat.testBit y.bf i=true) :
  x = .normal/\∃ (vs:List Zb) (st:Nat->St),Q9 X P call K ops e0 vs st/\st 0=s/\st ops.toList.length=s'/\e'=JB K ops.toList vs e0/\vs=L.reverse:=by
 have hbl:=Ld ops.toList;have hdl:=W6 (P:=P) (ops:=ops) ops.toList (Zw ops.toList []) hbl;rw [fH] at hdl;have h:sel (looks e0 ((S::SS).reverse) (Qq P call K ops ah ops.toList ah 0 .nil) L.reverse []) (Res.ok .normal E S) .bad = .ok x e' s':=h;cases hl:looks e0 ((S::SS).reverse) (Qq P call K ops ah ops.toList ah 0 .nil) L.reverse []
 ·rw [hl] at h; cases h
 ·rw [hl] at h;cases h;obtain ⟨vs,aL,h1,h2,h3,h4,h5,h6,h7⟩:=trace ops.toList ah 0 .nil [] L e0 e' s s' [] SS hdl hr;rw [List.append_nil] at h3 h5;rw [h3,List.reverse_reverse] at hl;have hss:(s'::SS).reverse=KG ah aL++[s']:=by rw [List.reverse_cons,h5,List.reverse_reverse]
  rw [hss] at hl
  have hdi:∀ j o,ops.toList[j]? = some o->∃ b,(Zw ops.toList [])[j]? = some b/\ah[j]? = some (NX P ops o b):=fun j o hj=>by
   obtain ⟨b,hb⟩:=Ze4 ops.toList (List.getElem?_eq_some_iff.1 hj).1;refine ⟨b,hb,?_⟩;rw [<- fH];exact La ops.toList _ j hj hb
  have hcl:∀ i j oi oj bi bj,i<j->ops.toList[i]? = some oi->ops.toList[j]? = some oj->ah[i]? = some (NX P ops oi bi)->ah[j]? = some (NX P ops oj bj)->(Zw ops.toList [])[j]? = some bj ->
    Xw (NX P ops oi bi) (LV (NX P ops oj bj))=true->XS (Zw ops.toList []) j i:=fun i j oi oj bi bj hij _ _ hi hj hb hc =>
   ⟨bj,hb,hcl0 i j _ _ hij hi hj hc⟩
  have iD:∀ {i t},ZT ops.toList i=some t->∃ o,ops.toList[i]? = some o/\o.dst=some t:=fun {i t} hd=>by
   unfold ZT at hd;rw [Option.bind_eq_some_iff] at hd;exact hd
  refine ⟨rfl,vs,fun j=>((aL++[s'])[j]?).getD s',⟨h1,fun j o hj => ?_,fun j o hj e he hb => ?_,fun i j o t hj ht hd => ?_,fun i j t hij hi hj => ?_,fun i j hij hX hi hj => ?_,?_⟩,?_,?_,h4,by rw [h3,List.reverse_reverse]⟩
  ·obtain ⟨v,s1,s2,g1,g2,g3,g4⟩:=h7 j o hj;rw [List.append_nil,Nat.zero_add] at g4;refine ⟨v,g1,?_⟩
   have e1:(aL++[s'])[j]? = some s1:=by
    rw [List.getElem?_append_left (List.getElem?_eq_some_iff.1 g2).1];exact g2
   simp only [e1,g3,Option.getD_some];exact g4
  ·have:=Gw ops.toList 0 hback j o hj e he hb;omega
  ·obtain ⟨oi,hi,jg⟩:=iD hd;obtain ⟨bi,hbi,fI⟩:=hdi i oi hi;obtain ⟨bj,hbj,fJ⟩:=hdi j o hj;exact ⟨fun hij=>hcl i j oi o bi bj hij hi hj fI fJ hbj (Da (t:=t) jg ht),fun hji=>hcl j i o oi bj bi hji hj hi fJ fI hbi (Db (t:=t) jg ht)⟩
  ·obtain ⟨oi,hi,jg⟩:=iD hi;obtain ⟨oj,hj,xW⟩:=iD hj;obtain ⟨bi,hbi,fI⟩:=hdi i oi hi;obtain ⟨bj,hbj,fJ⟩:=hdi j oj hj;exact hcl i j oi oj bi bj hij hi hj fI fJ hbj (Dc (t:=t) jg xW)
  ·obtain ⟨oi,hi,hei⟩:=hi;obtain ⟨oj,hj,hej⟩:=hj;obtain ⟨bi,hbi,fI⟩:=hdi i oi hi;obtain ⟨bj,hbj,fJ⟩:=hdi j oj hj;exact ⟨bj,hbj,xV i j _ _ hij hX fI fJ hei hej⟩
  ·intro j o v hj hk hv hw p hp hlo hhi;obtain ⟨b,hb,hd⟩:=hdi j o hj;obtain ⟨v',g1,hst⟩:=h7 j o hj
   have xX:QC K o=true:=by
    obtain ⟨_,_,_,_,g⟩:=hst;exact g.1
   have hla:=BE ops.toList ah 0 .nil vs [] hdl hl j o v _ hj hv hd (by show (WD P o.op).isL=true; rw [hk]; rfl) xX (by rw [List.append_nil,Nat.zero_add]; exact hw);rw [List.append_nil,Nat.zero_add] at hla
   have qc:∀ {k y},ah[k]? = some y->∃ o b,ops.toList[k]? = some o/\(Zw ops.toList [])[k]? = some b/\y=NX P ops o b:=fun {k y} hy=>by
    have hkl:k<ops.toList.length:=by
     rw [<- hdl];exact (List.getElem?_eq_some_iff.1 hy).1
    obtain ⟨b,hb,hd⟩:=hdi k _ (List.getElem?_eq_getElem hkl);rw [hd] at hy;cases hy;exact ⟨_,b,List.getElem?_eq_getElem hkl,hb,rfl⟩
   have hat:=BD s' ah aL p (by rw [hdl,h2]) (by
    rcases hp with rfl | ⟨o',g1,g2⟩
    ·exact .inl hdl.symm
    ·obtain ⟨b',_,g3⟩:=hdi p o' g1
     exact .inr ⟨_,g3,g2⟩)
   have hpl:p<=ops.toList.length:=by
    rcases hp with rfl | ⟨o',g1,_⟩
    ·exact Nat.le_refl _
    ·exact Nat.le_of_lt (List.getElem?_eq_some_iff.1 g1).1
   have hsp:(aL++[s'])[p]? = some (((aL++[s'])[p]?).getD s'):=by
    rw [List.getElem?_eq_getElem (by rw [List.length_append,h2,List.length_singleton]; omega)];rfl
   rw [hsp] at hat;refine Lc _ 0 hla (cnt ah p) _ hat ?_ ?_
   ·rw [Nat.zero_add];refine lo_le b ah 0 p fun k y hy he htb => ?_;obtain ⟨o',b',g1,g2,rfl⟩:=qc hy;rw [Nat.zero_add] at htb;exact hlo k ⟨o',g1,he⟩ ⟨b,hb,htb⟩
   ·rw [Nat.zero_add];refine ZhR j ah p fun k y hy hkp he => ?_;obtain ⟨o',b',g1,g2,rfl⟩:=qc hy;cases htb:Nat.testBit (NX P ops o' b').bf j
    ·rfl
    ·exact absurd ⟨b',g2,htb⟩ (hhi k ⟨o',g1,he⟩ hkp)
  ·simp only [h6];rfl
  ·have:(aL++[s'])[ops.toList.length]? = some s':=by rw [<- h2,List.getElem?_append_right (Nat.le_refl _)]; simp
   simp only [this];rfl
theorem ZgR {call:Zz} {K:ZI} {ops:Array Oper} {e0 e':Env} {s s':St} {x:Ex} (hg:Bs P ops (Q0 P ops ops.toList (Zw ops.toList []))=true)
  (h:Mi (Qq P call K ops (Q0 P ops ops.toList (Zw ops.toList [])) ops.toList (Q0 P ops ops.toList (Zw ops.toList [])) 0 .nil) e0 s = .ok x e' s') :
  x = .normal/\∃ (vs:List Zb) (st:Nat->St),Q9 (fun _ _=>False) P call K ops e0 vs st/\st 0=s/\st ops.toList.length=s'/\e'=JB K ops.toList vs e0:=by
 generalize fH:Q0 P ops ops.toList (Zw ops.toList [])=ah at h hg
 have h:N1 e0 (Qq P call K ops ah ops.toList ah 0 .nil) (LU e0 (Qq P call K ops ah ops.toList ah 0 .nil) [] e0 s []) = .ok x e' s':=h
 have hgood:Tp ops.toList 0=true/\Yx [] ah=true:=by
  unfold Bs at hg;rcases Ze hg with ⟨g1,g2⟩ | ⟨_,g2⟩
  ·exact ⟨g1,g2⟩
  ·cases g2
 have hcl:∀ i j x y,i<j->ah[i]? = some x->ah[j]? = some y->Xw x y=true->Nat.testBit y.bf i=true:=fun i j x y hij hi hj hc =>
  KH ah [] hgood.2 j _ hj i _ (by rw [List.nil_append]; exact hi) (by simpa using hij) hc
 cases hr:LU e0 (Qq P call K ops ah ops.toList ah 0 .nil) [] e0 s [] with
 | bad=>rw [hr] at h; cases h
 | ok L E S SS =>
  rw [hr] at h
  obtain ⟨h1,vs,st,h2,h3,h4,h5,_⟩:=Gy (X:=fun _ _=>False) fH hr h hgood.1 (fun i j x y hij hi hj hc=>hcl i j x y hij hi hj (Gx hc))
   (fun i j x y hij _ hi hj hx hy=>hcl i j x y hij hi hj (Lb hx hy))
  exact ⟨h1,vs,st,h2,h3,h4,h5⟩
end Ev
namespace Ev
open Go
variable [Sig] {P:Program} {X:Nat->Nat->Prop}
def Rho.QD (r:Rho) (n:Nat):Rho:=fun i=>if i<n then r i else none
theorem Rho.Kg {r:Rho} {n i:Nat} {x:RB} (h:r.QD n i=some x):i<n/\r i=some x:=by
 unfold Rho.QD at h;split at h
 ·rename_i hi; exact ⟨hi,h⟩
 ·cases h
theorem Rho.Qm {r:Rho} {n i:Nat} (h:i<n):r.QD n i=r i:=if_pos h
theorem Rho.XI {r:Rho} {n i:Nat} (h:n<=i):r.QD n i=none:=if_neg (by omega)
theorem Rho.RF {r q:Rho} {n m:Nat} (h:r.le q) (hn:n<=m):(r.QD n).le (q.QD m):=fun i x hx=>by
 obtain ⟨h1,h2⟩:=Rho.Kg hx;rw [Rho.Qm (Nat.lt_of_lt_of_le h1 hn)];exact h i x h2
theorem Rho.Dd {r:Rho} {n:Nat} (h:∀ i x,r i=some x->i<n):r.QD n=r:=by
 funext i
 by_cases hi:i<n
 ·exact Rho.Qm hi
 ·rw [Rho.XI (by omega)];cases e:r i with
  | none=>rfl
  | some x=>exact absurd (h i x e) hi
theorem Rho.ZaJ {r:Rho} {n m:Nat} {x:RB} (h:n<m):(r.at n x).QD m=(r.QD m).at n x:=by
 funext i
 by_cases hi:i=n
 ·subst hi;rw [Rho.Qm h,Rho.Zn,Rho.Zn]
 ·rw [Rho.Zx _ x hi];unfold Rho.QD;rw [Rho.Zx r x hi]
theorem Rho.Er {r:Rho} {n m:Nat} {x:RB} (h:m<=n):(r.at n x).QD m=r.QD m:=by
 funext i
 by_cases hi:i<m
 ·rw [Rho.Qm hi,Rho.Qm hi,Rho.Zx _ x (by omega)]
 ·rw [Rho.XI (by omega),Rho.XI (by omega)]
theorem Rho.Gz {r:Rho} {n:Nat} {x:RB} (h:r n=some x):r.QD (n+1)=(r.QD n).at n x:=by
 funext i
 by_cases hi:i=n
 ·subst hi;rw [Rho.Qm (Nat.lt_succ_self _),Rho.Zn,h]
 ·rw [Rho.Zx _ x hi];by_cases h1:i<n
  ·rw [Rho.Qm h1,Rho.Qm (by omega)]
  ·rw [Rho.XI (by omega),Rho.XI (by omega)]
theorem Rho.Zb6 {r:Rho} {n:Nat} (h:r n=none):r.QD (n+1)=r.QD n:=by
 funext i
 by_cases hi:i=n
 ·subst hi;rw [Rho.Qm (Nat.lt_succ_self _),Rho.XI (Nat.le_refl _),h]
 ·by_cases h1:i<n
  ·rw [Rho.Qm h1,Rho.Qm (by omega)]
  ·rw [Rho.XI (by omega),Rho.XI (by omega)]
theorem Rho.Le {r q:Rho} {n:Nat} {x:RB} (h:r.le q):(r.at n x).le (q.at n x):=fun i y hy=>by
 by_cases hi:i=n
 ·subst hi; rw [Rho.Zn] at hy ⊢; exact hy
 ·rw [Rho.Zx _ x hi] at hy ⊢; exact h i y hy
section
variable {r0 q:Rho} {s0 s:St} {w0 w w':World}
theorem Ext.grow (h:Ext r0 s0 w0 q s w) (hf:∀ k,k<w.heap.size->w'.heap[k]? = w.heap[k]?) (hs:w.heap.size<=w'.heap.size) (ho:w'.os=w.os) (ht:w'.tape=w.tape) (hp:w'.output=w.output) :
  Ext r0 s0 w0 q s w' where
 rel:=by
  refine ⟨⟨fun i b x hb hx => ?_,h.rel.far⟩,h.rel.apart,h.rel.known,fun i x g hx hg=>(h.rel.safe i x g hx hg).step hs (fun k hk _=>hf k hk) fun k hk => .inl hk⟩;obtain ⟨o,h1,h2⟩:=h.rel.block i b x hb hx;exact ⟨o,by rw [hf _ (Array.getElem?_eq_some_iff.1 h1).1]; exact h1,h2⟩
 le:=h.le
 next:=h.next
 os:=ho.trans h.os
 tape:=ht.trans h.tape
 output:=hp.trans h.output
 size:=Nat.le_trans h.size hs
 frame:=fun k hk hn=>(hf k (Nat.lt_of_lt_of_le hk h.size)).trans (h.frame k hk hn)
 still:=h.still
 dead:=h.dead
 XM:=h.XM
 fresh:=h.fresh
 Wa:=h.Wa
theorem Ext.born (h:Ext r0 s0 w0 q s w) {n:Nat} {b:Zd} {y:RB} {o:Obj} (hq:q n=none) (hb:∀ c,s.get n=some c->c=b) (hns:n<s.next) (hn:s0.next<=n) (hy:w.heap.size<=y.blk) (hu:w'.heap[y.blk]? = some o) (hr:BR (q.at n y) b y o)
  (hf:∀ k,k<w.heap.size->w'.heap[k]? = w.heap[k]?) (hs:w.heap.size<=w'.heap.size) (ho:w'.os=w.os) (ht:w'.tape=w.tape) (hp:w'.output=w.output) (hgn:y.gho=none:=by rfl):Ext r0 s0 w0 (q.at n y) s w':=by
 have h1:=h.grow hf hs ho ht hp;have hle:=q.JV y hq
 have blk:∀ {i c x},s.get i=some c->q i=some x->x.blk<w.heap.size:=fun {i c x} hc hx=>by
  obtain ⟨o',g1,_⟩:=h.rel.block i c x hc hx;exact (Array.getElem?_eq_some_iff.1 g1).1
 refine ⟨⟨⟨fun i c x hc hx => ?_,h.rel.far⟩,fun i j c d x z hc hd hx hz hxz => ?_,fun i x hx => ?_,fun i x g hx hg => ?_⟩,Rho.le_trans h.le hle,h1.next,h1.os,h1.tape,h1.output,h1.size,h1.frame,h1.still,h1.dead,fun k ⟨i,c,x,hc,hx,hk⟩ => ?_,fun i hi hne => ?_,fun k hk=>h.Wa k (hk.Yf hgn)⟩
 ·by_cases hi:i=n
  ·subst hi;rw [Rho.Zn] at hx;cases hx;rw [hb c hc];exact ⟨o,hu,hr⟩
  ·rw [Rho.Zx _ y hi] at hx;obtain ⟨o',g1,g2⟩:=h1.rel.block i c x hc hx;exact ⟨o',g1,g2.mono hle⟩
 ·by_cases hi:i=n <;> by_cases hj:j=n
  ·rw [hi,hj]
  ·subst hi;rw [Rho.Zn] at hx;cases hx;rw [Rho.Zx _ y hj] at hz;have:=blk hd hz;omega
  ·subst hj;rw [Rho.Zn] at hz;cases hz;rw [Rho.Zx _ y hi] at hx;have:=blk hc hx;omega
  ·rw [Rho.Zx _ y hi] at hx;rw [Rho.Zx _ y hj] at hz;exact h.rel.apart i j c d x z hc hd hx hz hxz
 ·by_cases hi:i=n
  ·subst hi; exact hns
  ·rw [Rho.Zx _ y hi] at hx;exact h.rel.known i x hx
 ·by_cases hi:i=n
  ·subst hi;rw [Rho.Zn] at hx;cases hx;rw [hgn] at hg;cases hg
  ·rw [Rho.Zx _ y hi] at hx;refine (h.rel.safe i x g hx hg).step hs (fun k hk _=>hf k hk) fun k ⟨i,c,x,hc,hx,hk⟩ => ?_;by_cases hi:i=n
   ·subst hi;rw [Rho.Zn] at hx;cases hx;exact .inr (by omega)
   ·rw [Rho.Zx _ y hi] at hx;exact .inl ⟨i,c,x,hc,hx,hk⟩
 ·by_cases hi:i=n
  ·subst hi;rw [Rho.Zn] at hx;cases hx;have:=h.size;exact .inr (by omega)
  ·rw [Rho.Zx _ y hi] at hx;exact h.XM k ⟨i,c,x,hc,hx,hk⟩
 ·by_cases hin:i=n
  ·subst hin; exact hn
  ·rw [Rho.Zx _ y hin] at hne;exact h.fresh i hi hne
theorem Ext.skip (h:Ext r0 s0 w0 q s w) (b:Zd):Ext r0 s0 w0 q (s.new b) w:=by
 have hn:=h.rel.Z7 (Nat.le_refl s.next)
 have back:∀ {i c x},(s.new b).get i=some c->q i=some x->s.get i=some c:=fun {i c x} hc hx=>by
  rw [St.ZC] at hc;by_cases hi:s.next=i
  ·subst hi; rw [hn] at hx; cases hx
  ·rw [if_neg hi] at hc; exact hc
 refine ⟨⟨⟨fun i c x hc hx=>h.rel.block i c x (back hc hx) hx,fun i hi => ?_⟩,fun i j c d x z hc hd hx hz=>h.rel.apart i j c d x z (back hc hx) (back hd hz) hx hz,fun i x hx => ?_,fun i x g hx hg=>(h.rel.safe i x g hx hg).step (Nat.le_refl _) (fun _ _ _=>rfl) fun k ⟨i,c,x,hc,hx,hk⟩ => .inl ⟨i,c,x,back hc hx,hx,hk⟩⟩,h.le,?_,h.os,h.tape,h.output,h.size,h.frame,fun i hi hr d hd => ?_,fun i hi hg => ?_,fun k ⟨i,c,x,hc,hx,hk⟩=>h.XM k ⟨i,c,x,back hc hx,hx,hk⟩,h.fresh,h.Wa⟩
 ·rw [St.Qn] at hi;rw [St.ZC,if_neg (by omega)];exact h.rel.far i (by omega)
 ·rw [St.Qn];have:=h.rel.known i x hx;omega
 ·rw [St.Qn];have:=h.next;omega
 ·have:=h.next;rw [St.ZC,if_neg (by omega)] at hd;exact h.still i hi hr d hd
 ·have:=h.next;rw [St.ZC,if_neg (by omega)];exact h.dead i hi hg
theorem Ext.ZjX (h:Ext r0 s0 w0 q s w) {b:Zd} {x:RB} {o:Obj} (hx:w.heap[x.blk]? = some o) (hr:BR (q.at s.next x) b x o) (hh:¬ Hit q s x.blk) (h0:w0.heap.size<=x.blk) (hgn:x.gho=none) (hft:¬ JA q x.blk):Ext r0 s0 w0 (q.at s.next x) (s.new b) w:=by
 have hn:=h.rel.Z7 (Nat.le_refl s.next);have hle:=q.JV x hn;have h1:=h.skip b
 have back:∀ {i c z},(s.new b).get i=some c->(q.at s.next x) i=some z->(i=s.next/\c=b/\z=x)\/(i≠s.next/\s.get i=some c/\q i=some z):=fun {i c z} hc hz=>by
  rw [St.ZC] at hc;by_cases hi:s.next=i
  ·subst hi;rw [if_pos rfl] at hc;cases hc;rw [Rho.Zn] at hz;cases hz;exact .inl ⟨rfl,rfl,rfl⟩
  ·rw [if_neg hi] at hc;rw [Rho.Zx _ x (Ne.symm hi)] at hz;exact .inr ⟨Ne.symm hi,hc,hz⟩
 refine ⟨⟨⟨fun i c z hc hz => ?_,h1.rel.far⟩,fun i j c d y z hc hd hy hz bJ => ?_,fun i z hz => ?_,fun i z g hz hg => ?_⟩,Rho.le_trans h.le hle,h1.next,h1.os,h1.tape,h1.output,h1.size,h1.frame,h1.still,h1.dead,fun k ⟨i,c,z,hc,hz,hk⟩ => ?_,fun i hi hne => ?_,fun k hk=>h.Wa k (hk.Yf hgn)⟩
 ·rcases back hc hz with ⟨rfl,rfl,rfl⟩ | ⟨g1,g2,g3⟩
  ·exact ⟨o,hx,hr⟩
  ·obtain ⟨o',g4,g5⟩:=h.rel.block i c z g2 g3;exact ⟨o',g4,g5.mono hle⟩
 ·rcases back hc hy with ⟨rfl,rfl,rfl⟩ | ⟨g1,g2,g3⟩ <;> rcases back hd hz with ⟨rfl,rfl,rfl⟩ | ⟨k1,k2,k3⟩
  ·rfl
  ·exact absurd ⟨j,d,z,k2,k3,bJ.symm⟩ hh
  ·exact absurd ⟨i,c,y,g2,g3,bJ⟩ hh
  ·exact h.rel.apart i j c d y z g2 k2 g3 k3 bJ
 ·rw [St.Qn];by_cases hi:i=s.next
  ·omega
  ·rw [Rho.Zx _ x hi] at hz;have:=h.rel.known i z hz;omega
 ·by_cases hi:i=s.next
  ·subst hi;rw [Rho.Zn] at hz;cases hz;rw [hgn] at hg;cases hg
  ·rw [Rho.Zx _ x hi] at hz;obtain ⟨g1,g2⟩:=h.rel.safe i z g hz hg;refine ⟨g1,fun k hk hl=>⟨(g2 k hk hl).1,fun ⟨j,c,y,hc,hy,hjk⟩ => ?_⟩⟩;rcases back hc hy with ⟨rfl,rfl,rfl⟩ | ⟨k1,k2,k3⟩
   ·subst hjk;exact hft ⟨i,z,g,hz,hg,hk,hl⟩
   ·exact (g2 k hk hl).2 ⟨j,c,y,k2,k3,hjk⟩
 ·rcases back hc hz with ⟨rfl,rfl,rfl⟩ | ⟨g1,g2,g3⟩
  ·exact .inr (by omega)
  ·exact h.XM k ⟨i,c,z,g2,g3,hk⟩
 ·by_cases hin:i=s.next
  ·rw [hin]; exact h.next
  ·rw [Rho.Zx _ x hin] at hne;exact h.fresh i hi hne
end
end Ev
namespace Ev
open Go
variable [Sig] {P:Program} {X:Nat->Nat->Prop}
mutual
theorem VR.low {r:Rho} {n:Nat}:∀ {v:Zb} {u:Value},VR r v u->PZ n v=true->VR (r.QD n) v u
 | _,_,.bool b,_ => .bool b
 | _,_,.int k m,_ => .int k m
 | _,_,.flt k b,_ => .flt k b
 | _,_,.Z2 k a b,_ => .Z2 k a b
 | _,_,.str l,_ => .str l
 | _,_,.Zo,_ => .Zo
 | _,_,.ptr h,hl => .ptr (by rw [Rho.Qm (QI hl)]; exact h)
 | _,_,.Za,_ => .Za
 | _,_,.Z4 a c,_ => .Z4 a c
 | _,_,.slice h hn hc hu,hl => .slice (by rw [Rho.Qm (QI hl)]; exact h) hn hc hu
 | _,_,.Zk,_ => .Zk
 | _,_,.map h,hl => .map (by rw [Rho.Qm (QI hl)]; exact h)
 | .func f a b,_,.func _ ha hb,hl=>by
  have hl:Bool.and (V3 n a) (V3 n b)=true:=hl;rw [Bool.and_eq_true] at hl;exact .func f (VRs.low ha hl.1) (VRs.low hb hl.2)
 | _,_,.ZJ,_ => .ZJ
 | _,_,.nilIface,_ => .nilIface
 | .iface t v,_,.iface _ h,hl=>by
  have hl:PZ n v=true:=hl;exact .iface t (VR.low h hl)
 | .agg l,_,.agg h,hl=>by
  have hl:V3 n l=true:=hl;exact .agg (VRs.low h hl)
 | .tuple l,_,.tuple h,hl=>by
  have hl:V3 n l=true:=hl;exact .tuple (VRs.low h hl)
 | _,_,.sint k h,_ => .sint k h
 | _,_,.raw h,_ => .raw h
 | .gho id _,_,.gho h hg hu hm,hl => .gho (by rw [Rho.Qm (show id<n from by simpa [PZ] using hl)]; exact h) hg hu hm
theorem VRs.low {r:Rho} {n:Nat}:∀ {l:List Zb} {l':List Value},VRs r l l'->V3 n l=true->VRs (r.QD n) l l'
 | _,_,.nil,_ => .nil
 | v::l,_,.cons h t,hl=>by
  have hl:Bool.and (PZ n v) (V3 n l)=true:=hl;rw [Bool.and_eq_true] at hl;exact .cons (VR.low h hl.1) (VRs.low t hl.2)
end
section
variable {call:Zz} {K:ZI} {ops:Array Oper} {e0:Env} {vs:List Zb} {st:Nat->St}
noncomputable abbrev Xx (ops:Array Oper) (j:Nat):Cod:=Jy j (Xs ops.toList 0 .nil j)
def Made (P:Program) (ops:Array Oper) (e0:Env) (vs:List Zb) (j:Nat):Prop :=
 ∃ o,ops.toList[j]? = some o/\WD P o.op = .make/\wanted (vs.take j).reverse e0 (guardOf (Xx ops j) ops o) = .yes
theorem Q9.De (hp:Q9 X P call K ops e0 vs st) (hcall:Z3 P call) {j:Nat} (hj:j<ops.toList.length) (he:¬ Ju P ops j) :
  (Made P ops e0 vs j/\∃ b,st (j+1)=(st j).new b)\/(¬ Made P ops e0 vs j/\st (j+1)=st j):=by
 have ho:ops.toList[j]? = some ops.toList[j]:=List.getElem?_eq_getElem hj;obtain ⟨v,hv,_,hn,_,h⟩:=hp.step j _ ho;rcases h with ⟨hw,hr⟩ | ⟨hw,rfl,hs⟩
 ·have h1:=PC hcall hr;cases hk:WD P (ops.toList[j]).op with
  | pure =>
   rw [hk] at h1;refine .inr ⟨fun ⟨o,g1,g2,_⟩ => ?_,h1.1⟩;rw [ho] at g1; cases g1; rw [hk] at g2; cases g2
  | look =>
   rw [hk] at h1;refine .inr ⟨fun ⟨o,g1,g2,_⟩ => ?_,h1.1⟩;rw [ho] at g1; cases g1; rw [hk] at g2; cases g2
  | make =>
   rw [hk] at h1;obtain ⟨mk,b,_,h2,_⟩:=h1;exact .inl ⟨⟨_,ho,hk,hw⟩,b,h2⟩
  | eff=>exact absurd ⟨_,ho,by rw [hk]; rfl⟩ he
 ·refine .inr ⟨fun ⟨o,g1,_,g3⟩ => ?_,hs⟩;rw [ho] at g1; cases g1; rw [hw] at g3; cases g3
theorem Q9.GA (hp:Q9 X P call K ops e0 vs st):∀ (d i:Nat),i+d<=ops.toList.length->(st i).next<=(st (i+d)).next
 | 0,i,_=>Nat.le_refl _
 | d+1,i,h=>by
  have ho:ops.toList[i+d]? = some ops.toList[i+d]:=List.getElem?_eq_getElem (by omega);obtain ⟨v,hv,_,hn,_,_⟩:=hp.step _ _ ho;exact Nat.le_trans (Q9.GA hp d i (by omega)) hn
theorem Q9.W7 (hp:Q9 X P call K ops e0 vs st) {i j:Nat} (h:i<=j) (hj:j<=ops.toList.length):(st i).next<=(st j).next:=by
 have:=hp.GA (j-i) i (by omega);rw [show i+(j-i)=j by omega] at this;exact this
theorem Made.lt {j:Nat} (h:Made P ops e0 vs j):j<ops.toList.length:=by
 obtain ⟨o,h1,_⟩:=h;exact (List.getElem?_eq_some_iff.1 h1).1
theorem Made.Lf {j:Nat} (h:Made P ops e0 vs j):¬ Ju P ops j:=by
 obtain ⟨o,h1,h2,_⟩:=h;rintro ⟨o',g1,g2⟩;rw [h1] at g1; cases g1; rw [h2] at g2; cases g2
theorem Q9.Zb7 (hp:Q9 X P call K ops e0 vs st) (hcall:Z3 P call) {j:Nat} (h:Made P ops e0 vs j):∃ b,st (j+1)=(st j).new b:=by
 rcases hp.De hcall h.lt h.Lf with ⟨_,h1⟩ | ⟨h1,_⟩
 ·exact h1
 ·exact absurd h h1
theorem Q9.YC (hp:Q9 X P call K ops e0 vs st) (hcall:Z3 P call) {j m:Nat} (h:Made P ops e0 vs j) (hjm:j<m) (hm:m<=ops.toList.length):(st j).next<(st m).next:=by
 obtain ⟨b,hb⟩:=hp.Zb7 hcall h;have h1:=hp.W7 (show j+1<=m from hjm) hm;rw [hb,St.Qn] at h1;omega
theorem Q9.ZgS (hp:Q9 X P call K ops e0 vs st) (hcall:Z3 P call) {j k:Nat} (h:Made P ops e0 vs j) (h':Made P ops e0 vs k) (hn:(st j).next=(st k).next):j=k:=by
 rcases Nat.lt_trichotomy j k with h1 | h1 | h1
 ·have:=hp.YC hcall h h1 (Nat.le_of_lt h'.lt); omega
 ·exact h1
 ·have:=hp.YC hcall h' h1 (Nat.le_of_lt h.lt); omega
structure Iv (P:Program) (call:Zz) (K:ZI) (ops:Array Oper) (e0:Env) (vs:List Zb) (st:Nat->St) (r0:Rho) (w0:World) (a0:Act) (D:Nat->Prop) (m:Nat) (r:Rho) (a:Act) (w:World):Prop where
 closed:F8 (Zw ops.toList []) D
 V5:∀ i,Ju P ops i->(D i↔i<m)
 le:m<=ops.toList.length
 ext:Ext r0 (st 0) w0 (r.QD (st m).next) (st m) w
 Lg:∀ i t v,D i->ZT ops.toList i=some t->(∀ k,i<k->D k->ZT ops.toList k≠some t)->vs[i]? = some v->VR r v (a.tmps.getD t undef)
 Lh:∀ t,(∀ k,D k->ZT ops.toList k≠some t)->a.tmps.getD t undef=a0.tmps.getD t undef
 size:a.tmps.size=a0.tmps.size
 defs:a.defers=[]
 early:∀ j,m<=j->D j->Made P ops e0 vs j->∃ x b o,r (st j).next=some x/\(st (j+1)).get (st j).next=some b/\BR (r.QD ((st j).next+1)) b x o/\w.heap[x.blk]? = some o/\w0.heap.size<=x.blk/\¬ Hit (r.QD (st m).next) (st m) x.blk/\x.gho=none/\¬ JA (r.QD (st m).next) x.blk
 apart:∀ j k x y,m<=j->m<=k->D j->D k->Made P ops e0 vs j->Made P ops e0 vs k->r (st j).next=some x->r (st k).next=some y->x.blk=y.blk->j=k
 later:∀ j,¬ D j->Made P ops e0 vs j->r (st j).next=none/\(j<m->∀ b,(st m).get (st j).next=some b->(st (j+1)).get (st j).next=some b)
 known:∀ i x,r i=some x->i<(st m).next\/∃ j,m<=j/\D j/\Made P ops e0 vs j/\i=(st j).next
variable {r0:Rho} {w0:World} {a0:Act} {D:Nat->Prop} {m:Nat} {r:Rho} {a:Act} {w:World}
theorem Iv.start (hp:Q9 X P call K ops e0 vs st) (hr:Rel r0 (st 0) w0) (ha:a0.defers=[]):Iv P call K ops e0 vs st r0 w0 a0 (fun _=>False) 0 r0 a0 w0:=by
 have ht:r0.QD (st 0).next=r0:=Rho.Dd hr.known;refine ⟨fun j hj=>hj.elim,fun i _=>⟨fun h=>h.elim,fun h=>by omega⟩,Nat.zero_le _,by rw [ht]; exact Ext.refl hr,fun i t v h=>h.elim,fun t _=>rfl,rfl,ha,fun j _ h=>h.elim,fun j k x y _ _ h=>h.elim,fun j _ hm => ?_,fun i x h => .inl (hr.known i x h)⟩;exact ⟨hr.Z7 (hp.W7 (Nat.zero_le j) (Nat.le_of_lt hm.lt)),fun h=>by omega⟩
theorem Iv.on (hp:Q9 X P call K ops e0 vs st) (hcall:Z3 P call) (h:Iv P call K ops e0 vs st r0 w0 a0 D m r a w) (hm:m<ops.toList.length) (he:¬ Ju P ops m) :
  Iv P call K ops e0 vs st r0 w0 a0 D (m+1) r a w:=by
 have iE:∀ i,Ju P ops i->(D i↔i<m+1):=fun i hi=>by
  rw [h.V5 i hi];refine ⟨fun h=>by omega,fun h => ?_⟩;by_cases hi':i=m
  ·subst hi'; exact absurd hi he
  ·omega
 rcases hp.De hcall hm he with ⟨bN,b,hb⟩ | ⟨bN,hs⟩
 ·have hnx:(st (m+1)).next=(st m).next+1:=by rw [hb,St.Qn]
  by_cases hD:D m
  ·obtain ⟨x,b',o,h1,h2,h3,h4,h5,h6,h7,h8⟩:=h.early m (Nat.le_refl _) hD bN
   have hbb:b'=b:=by
    rw [hb,St.ZC,if_pos rfl] at h2;cases h2; rfl
   subst hbb;have ht:r.QD (st (m+1)).next=(r.QD (st m).next).at (st m).next x:=by rw [hnx]; exact Rho.Gz h1
   have bA:Ext r0 (st 0) w0 ((r.QD (st m).next).at (st m).next x) ((st m).new b') w:=h.ext.ZjX h4 (by rw [<- Rho.Gz h1]; exact h3) h6 h5 h7 h8;refine ⟨h.closed,iE,hm,by rw [ht,hb]; exact bA,h.Lg,h.Lh,h.size,h.defs,fun j hj cZ hMj => ?_,fun j k y z hj hk=>h.apart j k y z (by omega) (by omega),fun j cZ hMj => ?_,fun i y hy => ?_⟩
   ·obtain ⟨y,c,o',g1,g2,g3,g4,g5,g6,g7,g8⟩:=h.early j (by omega) cZ hMj;refine ⟨y,c,o',g1,g2,g3,g4,g5,?_,g7,by rw [ht]; exact fun hf=>g8 (hf.Yf h7)⟩;rw [ht,hb];rintro ⟨i,d,z,k1,k2,k3⟩;by_cases hi:i=(st m).next
    ·subst hi;rw [Rho.Zn] at k2;cases k2;have:=h.apart m j x y (Nat.le_refl _) (by omega) hD cZ bN hMj h1 g1 k3;omega
    ·rw [Rho.Zx _ x hi] at k2;rw [St.ZC,if_neg (Ne.symm hi)] at k1;exact g6 ⟨i,d,z,k1,k2,k3⟩
   ·obtain ⟨g1,g2⟩:=h.later j cZ hMj;refine ⟨g1,fun hjm d hd => ?_⟩
    have fK:j<m:=by
     rcases Nat.lt_or_ge j m with h7 | h7
     ·exact h7
     ·have:j=m:=by omega
      subst this; exact absurd hD cZ
    have:=hp.YC hcall hMj fK (Nat.le_of_lt hm);rw [hb,St.ZC,if_neg (by omega)] at hd;exact g2 fK d hd
   ·rcases h.known i y hy with g | ⟨j,g1,g2,g3,g4⟩
    ·exact .inl (by omega)
    ·by_cases hjm:j=m
     ·subst hjm; exact .inl (by omega)
     ·exact .inr ⟨j,by omega,g2,g3,g4⟩
  ·obtain ⟨h1,_⟩:=h.later m hD bN;have ht:r.QD (st (m+1)).next=r.QD (st m).next:=by rw [hnx]; exact Rho.Zb6 h1
   refine ⟨h.closed,iE,hm,by rw [ht,hb]; exact h.ext.skip b,h.Lg,h.Lh,h.size,h.defs,fun j hj cZ hMj => ?_,fun j k y z hj hk=>h.apart j k y z (by omega) (by omega),fun j cZ hMj => ?_,fun i y hy => ?_⟩
   ·obtain ⟨y,c,o',g1,g2,g3,g4,g5,g6,g7,g8⟩:=h.early j (by omega) cZ hMj;refine ⟨y,c,o',g1,g2,g3,g4,g5,?_,g7,by rw [ht]; exact g8⟩;rw [ht,hb];rintro ⟨i,d,z,k1,k2,k3⟩
    have hi:i≠(st m).next:=fun e=>by
     have:=(Rho.Kg k2).1;omega
    rw [St.ZC,if_neg (Ne.symm hi)] at k1;exact g6 ⟨i,d,z,k1,k2,k3⟩
   ·obtain ⟨g1,g2⟩:=h.later j cZ hMj;refine ⟨g1,fun hjm d hd => ?_⟩;by_cases fK:j=m
    ·subst fK; exact hd
    ·have:=hp.YC hcall hMj (show j<m by omega) (Nat.le_of_lt hm);rw [hb,St.ZC,if_neg (by omega)] at hd;exact g2 (by omega) d hd
   ·rcases h.known i y hy with g | ⟨j,g1,g2,g3,g4⟩
    ·exact .inl (by omega)
    ·by_cases hjm:j=m
     ·subst hjm; exact absurd g2 hD
     ·exact .inr ⟨j,by omega,g2,g3,g4⟩
 ·refine ⟨h.closed,iE,hm,by rw [hs]; exact h.ext,h.Lg,h.Lh,h.size,h.defs,fun j hj cZ hMj => ?_,fun j k y z hj hk=>h.apart j k y z (by omega) (by omega),fun j cZ hMj => ?_,fun i y hy => ?_⟩
  ·obtain ⟨y,c,o',g1,g2,g3,g4,g5,g6,g7,g8⟩:=h.early j (by omega) cZ hMj;exact ⟨y,c,o',g1,g2,g3,g4,g5,by rw [hs]; exact g6,g7,by rw [hs]; exact g8⟩
  ·obtain ⟨g1,g2⟩:=h.later j cZ hMj;refine ⟨g1,fun hjm d hd => ?_⟩;by_cases fK:j=m
   ·subst fK; exact absurd hMj bN
   ·rw [hs] at hd; exact g2 (by omega) d hd
  ·rcases h.known i y hy with g | ⟨j,g1,g2,g3,g4⟩
   ·exact .inl (by rw [hs]; exact g)
   ·by_cases hjm:j=m
    ·subst hjm; exact absurd g3 bN
    ·exact .inr ⟨j,by omega,g2,g3,g4⟩
theorem Iv.full (hp:Q9 X P call K ops e0 vs st) (hcall:Z3 P call):∀ (d:Nat) {m:Nat},ops.toList.length-m=d->Iv P call K ops e0 vs st r0 w0 a0 D m r a w ->
  ∃ p,Iv P call K ops e0 vs st r0 w0 a0 D p r a w/\(p=ops.toList.length\/Ju P ops p)
 | 0,m,hd,h=>⟨m,h,.inl (by have:=h.le; omega)⟩
 | d+1,m,hd,h=>by
  by_cases he:Ju P ops m
  ·exact ⟨m,h,.inr he⟩
  ·exact Iv.full hp hcall d (m:=m+1) (by omega) (h.on hp hcall (by omega) he)
end
end Ev
namespace Ev
open Go
variable [Sig] {P:Program} {X:Nat->Nat->Prop}
theorem XE {t:Tmp}:∀ {l:List Operand},Operand.tmp t∈l->t∈NW l
 | .tmp u::l,h=>by
  rcases List.mem_cons.1 h with h | h
  ·cases h; exact List.mem_cons_self ..
  ·exact List.mem_cons_of_mem _ (XE h)
 | .const v::l,h=>by
  rcases List.mem_cons.1 h with h | h
  ·cases h
  ·exact XE (l:=l) h
 | .global g::l,h=>by
  rcases List.mem_cons.1 h with h | h
  ·cases h
  ·exact XE (l:=l) h
 | .func f::l,h=>by
  rcases List.mem_cons.1 h with h | h
  ·cases h
  ·exact XE (l:=l) h
section
variable {call:Zz} {K:ZI} {ops:Array Oper} {e0:Env} {vs:List Zb} {st:Nat->St}
variable {r0:Rho} {w0:World} {a0:Act} {D D':Nat->Prop} {m:Nat} {r:Rho} {a:Act} {w:World}
theorem Iv.read (hp:Q9 X P call K ops e0 vs st) (hr0:Rel r0 (st 0) w0) (he0:Qr K r0 e0 a0) (h:Iv P call K ops e0 vs st r0 w0 a0 D m r a w) {j:Nat} {o:Oper} (ho:ops.toList[j]? = some o) (hD:¬ D j)
  (hr:∀ i,XS (Zw ops.toList []) j i->D i) {t:Tmp} (ht:t∈F9 ops o) {v:Zb} (hv:Zl (vs.take j).reverse e0 (Xx ops j (.tmp t)) = .ok v):VR (r.QD (st j).next) v (a.tmps.getD t undef):=by
 have hjl:=(List.getElem?_eq_some_iff.1 ho).1;have behind:∀ k,j<k->D k->ZT ops.toList k≠some t:=fun k hjk ay hk=>hD (h.closed k ay j ((hp.reads k j o t ho ht hk).2 hjk));rcases N8 (Nat.le_of_lt hjl) hp.len hv with ⟨i,hij,hdi,hlast,fQ⟩ | ⟨hnone,hget⟩
 ·have lF:D i:=hr i ((hp.reads i j o t ho ht hdi).1 hij)
  have h1:=h.Lg i t v lF hdi (fun k hik ay hk=>by
   rcases Nat.lt_trichotomy k j with g | g | g
   ·exact hlast k hik g hk
   ·subst g; exact hD ay
   ·exact behind k g ay hk) fQ
  obtain ⟨v',hv',_,_,hlow,_⟩:=hp.step i _ (List.getElem?_eq_getElem (show i<ops.toList.length by omega));rw [fQ] at hv';cases hv';exact (h1.low hlow).mono (Rho.RF r.le_refl (hp.W7 hij (Nat.le_of_lt hjl)))
 ·rw [h.Lh t fun k ay hk=>by
   rcases Nat.lt_trichotomy k j with g | g | g
   ·exact hnone k g hk
   ·subst g; exact hD ay
   ·exact behind k g ay hk]
  refine (he0.env t v hget).2.mono fun i x hx => ?_;have h1:=hr0.known i x hx;have h2:=hp.W7 (Nat.zero_le j) (Nat.le_of_lt hjl);rw [Rho.Qm (by omega)];exact (Rho.Kg (h.ext.le i x hx)).2
theorem Iv.cx (hp:Q9 X P call K ops e0 vs st) (hr0:Rel r0 (st 0) w0) (he0:Qr K r0 e0 a0) (h:Iv P call K ops e0 vs st r0 w0 a0 D m r a w) {j:Nat} {o:Oper} (ho:ops.toList[j]? = some o) (hD:¬ D j)
  (hr:∀ i,XS (Zw ops.toList []) j i->D i):Cx (r.QD (st j).next) (vs.take j).reverse e0 (Xx ops j) a o.op:=by
 intro x hx v hv;cases x with
 | tmp t=>exact h.read hp hr0 he0 ho hD hr (List.mem_append_left _ (XE (Array.mem_toList_iff.2 hx))) hv
 | const u =>
  have hv:Zl (vs.take j).reverse e0 (PY u) = .ok v:=hv;unfold PY at hv;split at hv
  ·rename_i b hb;cases hv;exact SD _ u _ hb
  ·cases hv
 | func f =>
  cases hv;exact .func f .nil .nil
 | _=>cases hv
theorem Iv.put (hp:Q9 X P call K ops e0 vs st) (he0:Qr K r0 e0 a0) (h:Iv P call K ops e0 vs st r0 w0 a0 D m r a w) {j:Nat} {o:Oper} (ho:ops.toList[j]? = some o) (hdi:QC K o=true) (hD:¬ D j)
  (hD':∀ k,D' k↔D k\/k=j) {r':Rho} (hle:r.le r') {v:Zb} {u:Value} (hv:vs[j]? = some v) (aP:VR r' v u) :
  (∀ i t v,D' i->ZT ops.toList i=some t->(∀ k,i<k->D' k->ZT ops.toList k≠some t)->vs[i]? = some v->VR r' v ((a.put o.dst u).tmps.getD t undef)) /\
   (∀ t,(∀ k,D' k->ZT ops.toList k≠some t)->(a.put o.dst u).tmps.getD t undef=a0.tmps.getD t undef):=by
 have hdst:ZT ops.toList j=o.dst:=by unfold ZT; rw [ho]; rfl
 have cZ:D' j:=(hD' j).2 (.inr rfl)
 have ne:∀ {t},o.dst≠some t->(a.put o.dst u).tmps.getD t undef=a.tmps.getD t undef:=fun {t} hn=>by
  cases hd:o.dst with
  | none=>rfl
  | some d=>exact Jt fun e=>hn (by rw [hd,e])
 refine ⟨fun i t v' lF hit hlast fQ => ?_,fun t hn => ?_⟩
 ·by_cases hij:i=j
  ·subst hij;rw [hv] at fQ;cases fQ;rw [hdst] at hit;rw [hit];rw [JI]
   ·exact aP
   ·unfold QC at hdi;rw [hit] at hdi;rw [h.size];exact Nat.lt_of_lt_of_le (QI hdi) he0.size
  ·have iF:D i:=((hD' i).1 lF).resolve_right hij
   have hn:o.dst≠some t:=fun e=>by
    rcases Nat.lt_or_ge i j with g | g
    ·exact hlast j g cZ (by rw [hdst,e])
    ·exact hD (h.closed i iF j (hp.writes j i t (by omega) (by rw [hdst,e]) hit))
   rw [ne hn];exact (h.Lg i t v' iF hit (fun k hik ay=>hlast k hik ((hD' k).2 (.inl ay))) fQ).mono hle
 ·rw [ne (fun e=>hn j cZ (by rw [hdst,e]))];exact h.Lh t fun k ay=>hn k ((hD' k).2 (.inl ay))
theorem Iv.RG (h:Iv P call K ops e0 vs st r0 w0 a0 D m r a w) {j:Nat} (hr:∀ i,XS (Zw ops.toList []) j i->D i) (hD':∀ k,D' k↔D k\/k=j):F8 (Zw ops.toList []) D':=fun k hk i hi=>by
 rcases (hD' k).1 hk with g | g
 ·exact (hD' i).2 (.inl (h.closed k g i hi))
 ·subst g; exact (hD' i).2 (.inl (hr i hi))
theorem YD (h:Iv P call K ops e0 vs st r0 w0 a0 D m r a w) (d:Option Tmp) (u:Value):(a.put d u).tmps.size=a0.tmps.size/\(a.put d u).defers=[] :=
 ⟨by rw [RC]; exact h.size,by rw [RD]; exact h.defs⟩
theorem Iv.quiet (hp:Q9 X P call K ops e0 vs st) (he0:Qr K r0 e0 a0) (h:Iv P call K ops e0 vs st r0 w0 a0 D m r a w) {j:Nat} {o:Oper} (ho:ops.toList[j]? = some o) (hD:¬ D j)
  (hr:∀ i,XS (Zw ops.toList []) j i->D i) (hD':∀ k,D' k↔D k\/k=j) (hne:¬ Ju P ops j) (hnm:¬ Made P ops e0 vs j) {v:Zb} {u:Value} (hdi:QC K o=true) (hv:vs[j]? = some v) (aP:VR r v u) :
  Iv P call K ops e0 vs st r0 w0 a0 D' m r (a.put o.dst u) w:=by
 obtain ⟨h1,h2⟩:=h.put hp he0 ho hdi hD hD' r.le_refl hv aP;obtain ⟨h3,h4⟩:=YD h o.dst u;have dm:∀ {k},D' k->Made P ops e0 vs k->D k:=fun {k} hk hm=>((hD' k).1 hk).resolve_right fun e=>hnm (e▸hm)
 refine ⟨h.RG hr hD',fun i hi => ?_,h.le,h.ext,h1,h2,h3,h4,fun k hk ay aC=>h.early k hk (dm ay aC) aC,fun k l x y hk hl ay hDl aC dL=>h.apart k l x y hk hl (dm ay aC) (dm hDl dL) aC dL,
  fun k ay aC=>h.later k (fun g=>ay ((hD' k).2 (.inl g))) aC,fun i x hx => ?_⟩
 ·rw [<- h.V5 i hi,hD' i];exact ⟨fun g=>g.resolve_right fun e=>hne (e▸hi),.inl⟩
 ·rcases h.known i x hx with g | ⟨k,g1,g2,g3,g4⟩
  ·exact .inl g
  ·exact .inr ⟨k,g1,(hD' k).2 (.inl g2),g3,g4⟩
theorem Iv.Ze5 (hp:Q9 X P call K ops e0 vs st) (he0:Qr K r0 e0 a0) (h:Iv P call K ops e0 vs st r0 w0 a0 D m r a w) {o:Oper} (ho:ops.toList[m]? = some o) (hD:¬ D m)
  (hr:∀ i,XS (Zw ops.toList []) m i->D i) (hD':∀ k,D' k↔D k\/k=m) (hne:Ju P ops m) {v:Zb} {u:Value} (hdi:QC K o=true) (hv:vs[m]? = some v) (aP:VR r v u) (hs:st (m+1)=st m) :
  Iv P call K ops e0 vs st r0 w0 a0 D' (m+1) r (a.put o.dst u) w:=by
 obtain ⟨h1,h2⟩:=h.put hp he0 ho hdi hD hD' r.le_refl hv aP;obtain ⟨h3,h4⟩:=YD h o.dst u;have df:=(List.getElem?_eq_some_iff.1 ho).1;have nm:∀ {k},Made P ops e0 vs k->k≠m:=fun {k} hk e=>by subst e; exact hk.Lf hne
 have dm:∀ {k},D' k->Made P ops e0 vs k->D k:=fun {k} hk hm=>((hD' k).1 hk).resolve_right (nm hm)
 refine ⟨h.RG hr hD',fun i hi => ?_,df,by rw [hs]; exact h.ext,h1,h2,h3,h4,fun k hk ay aC=>by rw [hs]; exact h.early k (by omega) (dm ay aC) aC,fun k l x y hk hl ay hDl aC dL=>h.apart k l x y (by omega) (by omega) (dm ay aC) (dm hDl dL) aC dL,
  fun k ay aC => ?_,fun i x hx => ?_⟩
 ·rw [hD' i,h.V5 i hi];omega
 ·obtain ⟨g1,g2⟩:=h.later k (fun g=>ay ((hD' k).2 (.inl g))) aC;have:=nm aC;exact ⟨g1,fun hk d hd=>by rw [hs] at hd; exact g2 (by omega) d hd⟩
 ·rcases h.known i x hx with g | ⟨k,g1,g2,g3,g4⟩
  ·exact .inl (by rw [hs]; exact g)
  ·have:=nm g3;exact .inr ⟨k,by omega,(hD' k).2 (.inl g2),g3,g4⟩
theorem Iv.effect (hp:Q9 X P call K ops e0 vs st) (hcall:Z3 P call) (he0:Qr K r0 e0 a0) (h:Iv P call K ops e0 vs st r0 w0 a0 D m r a w) {o:Oper} (ho:ops.toList[m]? = some o) (hD:¬ D m)
  (hr:∀ i,XS (Zw ops.toList []) m i->D i) (hD':∀ k,D' k↔D k\/k=m) (hne:Ju P ops m) {v:Zb} {u:Value} (hdi:QC K o=true) (hv:vs[m]? = some v) {q:Rho} {w':World}
  (hx:Ext (r.QD (st m).next) (st m) w q (st (m+1)) w') (aP:VR q v u) :
  ∃ r',Iv P call K ops e0 vs st r0 w0 a0 D' (m+1) r' (a.put o.dst u) w':=by
 have df:=(List.getElem?_eq_some_iff.1 ho).1;have nm:∀ {k},Made P ops e0 vs k->k≠m:=fun {k} hk e=>by subst e; exact hk.Lf hne
 have dm:∀ {k},D' k->Made P ops e0 vs k->D k:=fun {k} hk hm=>((hD' k).1 hk).resolve_right (nm hm);have up:∀ {k},Made P ops e0 vs k->m<=k->(st (m+1)).next<=(st k).next:=fun {k} hk hmk=>hp.W7 (by have:=nm hk; omega) (Nat.le_of_lt hk.lt);have hnn:=hx.next
 let r':Rho:=fun i=>if i<(st (m+1)).next then q i else r i
 have rZ:∀ {i},i<(st (m+1)).next->r' i=q i:=fun hi=>if_pos hi;have mJ:∀ {i},(st (m+1)).next<=i->r' i=r i:=fun hi=>if_neg (by omega)
 have hle:r.le r':=fun i x hi=>by
  rcases h.known i x hi with g | ⟨k,g1,g2,g3,g4⟩
  ·rw [rZ (by omega)];exact hx.le i x (by rw [Rho.Qm g]; exact hi)
  ·have:=up g3 g1;rw [mJ (by omega)];exact hi
 have dJ:r'.QD (st (m+1)).next=q:=by
  funext i
  by_cases hi:i<(st (m+1)).next
  ·rw [Rho.Qm hi,rZ hi]
  ·rw [Rho.XI (by omega)];exact (hx.rel.Z7 (by omega)).symm
 have rQ:q.le r':=fun i x hi=>by rw [rZ (hx.rel.known i x hi)]; exact hi
 obtain ⟨h1,h2⟩:=h.put hp he0 ho hdi hD hD' hle hv (aP.mono rQ);obtain ⟨h3,h4⟩:=YD h o.dst u;refine ⟨r',h.RG hr hD',fun i hi => ?_,df,by rw [dJ]; exact h.ext.trans hx,h1,h2,h3,h4,fun k hk ay aC => ?_,fun k l x y hk hl ay hDl aC dL hxk hyl => ?_,fun k ay aC => ?_,fun i x hi => ?_⟩
 ·rw [hD' i,h.V5 i hi];omega
 ·obtain ⟨x,b,ob,g1,g2,g3,g4,g5,g6,g7,g8⟩:=h.early k (by omega) (dm ay aC) aC;have hsz:=(Array.getElem?_eq_some_iff.1 g4).1
  refine ⟨x,b,ob,by rw [mJ (up aC (by omega))]; exact g1,g2,g3.mono (Rho.RF hle (Nat.le_refl _)),by rw [hx.frame _ hsz g6]; exact g4,g5,?_,g7,by
   rw [dJ];intro hh;rcases hx.Wa _ hh with g | g
   ·exact g8 g
   ·omega⟩
  rw [dJ];intro hh;rcases hx.XM _ hh with g | g
  ·exact g6 g
  ·omega
 ·rw [mJ (up aC (by omega))] at hxk;rw [mJ (up dL (by omega))] at hyl;exact h.apart k l x y (by omega) (by omega) (dm ay aC) (dm hDl dL) aC dL hxk hyl
 ·obtain ⟨g1,g2⟩:=h.later k (fun g=>ay ((hD' k).2 (.inl g))) aC;have qO:=nm aC;rcases Nat.lt_or_ge k m with hlt | hge
  ·have hkn:=hp.YC hcall aC hlt (Nat.le_of_lt df);have hn:(r.QD (st m).next) (st k).next=none:=by rw [Rho.Qm hkn]; exact g1
   refine ⟨?_,fun _ d hd=>g2 hlt d (hx.still _ hkn hn d hd)⟩;rw [rZ (by omega)];cases e:q (st k).next with
   | none=>rfl
   | some x=>exact absurd (hx.fresh _ hn (by rw [e]; exact fun h=>by cases h)) (by omega)
  ·exact ⟨by rw [mJ (up aC hge)]; exact g1,fun hk=>by omega⟩
 ·by_cases hin:i<(st (m+1)).next
  ·exact .inl hin
  ·rw [mJ (by omega)] at hi;rcases h.known i x hi with g | ⟨k,g1,g2,g3,g4⟩
   ·exact .inl (by omega)
   ·have:=nm g3;exact .inr ⟨k,by omega,(hD' k).2 (.inl g2),g3,g4⟩
theorem Iv.made (hp:Q9 X P call K ops e0 vs st) (hcall:Z3 P call) (he0:Qr K r0 e0 a0) (h:Iv P call K ops e0 vs st r0 w0 a0 D m r a w) {j:Nat} {o:Oper} (ho:ops.toList[j]? = some o) (hD:¬ D j)
  (hr:∀ i,XS (Zw ops.toList []) j i->D i) (hD':∀ k,D' k↔D k\/k=j) (hM:Made P ops e0 vs j) (hjm:j≠m) {v:Zb} {u:Value} (hdi:QC K o=true) (hv:vs[j]? = some v) {b:Zd} (hb:st (j+1)=(st j).new b)
  {w':World} {y:RB} {ob:Obj} (hy:y.blk=w.heap.size) (hgn:y.gho=none) (hu:w'.heap[y.blk]? = some ob) (hf:∀ k,k<w.heap.size->w'.heap[k]? = w.heap[k]?) (hs:w.heap.size<=w'.heap.size) (hos:w'.os=w.os) (II:w'.tape=w.tape)
  (hout:w'.output=w.output) (hbr:BR ((r.QD (st j).next).at (st j).next y) b y ob) (aP:VR ((r.QD (st j).next).at (st j).next y) v u) :
  ∃ r',Iv P call K ops e0 vs st r0 w0 a0 D' m r' (a.put o.dst u) w':=by
 have hjl:=(List.getElem?_eq_some_iff.1 ho).1;have hne:=hM.Lf;obtain ⟨hrn,hst⟩:=h.later j hD hM;have hle:r.le (r.at (st j).next y):=r.JV y hrn;have qd:((r.QD (st j).next).at (st j).next y).le (r.at (st j).next y):=Rho.Le fun i x hx=>(Rho.Kg hx).2;obtain ⟨h1,h2⟩:=h.put hp he0 ho hdi hD hD' hle hv (aP.mono qd);obtain ⟨h3,h4⟩:=YD h o.dst u;have hnx:(st (j+1)).next=(st j).next+1:=by rw [hb,St.Qn]
 have hget:(st (j+1)).get (st j).next=some b:=by rw [hb,St.ZC,if_pos rfl]
 have ne:∀ {k},Made P ops e0 vs k->k≠j->(st k).next≠(st j).next:=fun {k} hk hkj e=>hkj (hp.ZgS hcall hk hM e)
 have V5:∀ i,Ju P ops i->(D' i↔i<m):=fun i hi=>by
  rw [<- h.V5 i hi,hD' i];exact ⟨fun g=>g.resolve_right fun e=>hne (e▸hi),.inl⟩
 have later:∀ k,¬ D' k->Made P ops e0 vs k->(r.at (st j).next y) (st k).next=none/\(k<m->∀ b,(st m).get (st k).next=some b->(st (k+1)).get (st k).next=some b):=fun k ay aC=>by
  have hkj:k≠j:=fun e=>ay ((hD' k).2 (.inr e));rw [Rho.Zx r y (ne aC hkj)];exact h.later k (fun g=>ay ((hD' k).2 (.inl g))) aC
 have old:∀ {k},m<=k->D k->Made P ops e0 vs k->∃ x c oc,(r.at (st j).next y) (st k).next=some x/\(st (k+1)).get (st k).next=some c/\BR ((r.at (st j).next y).QD ((st k).next+1)) c x oc/\w'.heap[x.blk]? = some oc/\w0.heap.size<=x.blk /\
   ¬ Hit (r.QD (st m).next) (st m) x.blk/\x.blk<w.heap.size/\x.gho=none/\¬ JA (r.QD (st m).next) x.blk:=fun {k} hk ay aC=>by
  obtain ⟨x,c,oc,g1,g2,g3,g4,g5,g6,g7,g8⟩:=h.early k hk ay aC;have hsz:=(Array.getElem?_eq_some_iff.1 g4).1;exact ⟨x,c,oc,hle _ _ g1,g2,g3.mono (Rho.RF hle (Nat.le_refl _)),by rw [hf _ hsz]; exact g4,g5,g6,hsz,g7,g8⟩
 have hw0:=h.ext.size;rcases Nat.lt_or_ge j m with hlt | hge
 ·have hjn:=hp.YC hcall hM hlt h.le;have ht:(r.at (st j).next y).QD (st m).next=(r.QD (st m).next).at (st j).next y:=Rho.ZaJ hjn;have hq:(r.QD (st m).next) (st j).next=none:=by rw [Rho.Qm hjn]; exact hrn
  have bA:=h.ext.born (n:=(st j).next) hq (fun c hc=>by have:=hst hlt c hc; rw [hget] at this; cases this; rfl) hjn (hp.W7 (Nat.zero_le j) (Nat.le_of_lt hjl)) (by omega) hu (hbr.mono (Rho.Le (Rho.RF r.le_refl (Nat.le_of_lt hjn)))) hf hs hos II hout hgn;have dj:∀ {k},m<=k->D' k->D k:=fun {k} hk ay=>((hD' k).1 ay).resolve_right (by omega);refine ⟨_,h.RG hr hD',V5,h.le,by rw [ht]; exact bA,h1,h2,h3,h4,fun k hk ay aC => ?_,fun k l x z hk hl ay hDl aC dL hxk hyl => ?_,later,fun i x hx => ?_⟩
  ·obtain ⟨x,c,oc,g1,g2,g3,g4,g5,g6,g7,g8,g9⟩:=old hk (dj hk ay) aC;refine ⟨x,c,oc,g1,g2,g3,g4,g5,?_,g8,by rw [ht]; exact fun hf=>g9 (hf.Yf hgn)⟩;rw [ht];rintro ⟨i,d,z,k1,k2,k3⟩;by_cases hi:i=(st j).next
   ·subst hi;rw [Rho.Zn] at k2;cases k2;omega
   ·rw [Rho.Zx _ y hi] at k2;exact g6 ⟨i,d,z,k1,k2,k3⟩
  ·rw [Rho.Zx r y (ne aC (by omega))] at hxk;rw [Rho.Zx r y (ne dL (by omega))] at hyl;exact h.apart k l x z hk hl (dj hk ay) (dj hl hDl) aC dL hxk hyl
  ·by_cases hi:i=(st j).next
   ·exact .inl (by omega)
   ·rw [Rho.Zx r y hi] at hx;rcases h.known i x hx with g | ⟨k,g1,g2,g3,g4⟩
    ·exact .inl g
    ·exact .inr ⟨k,g1,(hD' k).2 (.inl g2),g3,g4⟩
 ·have iQ:=hp.W7 (show m<=j from hge) (Nat.le_of_lt hjl);have ht:(r.at (st j).next y).QD (st m).next=r.QD (st m).next:=Rho.Er iQ;refine ⟨_,h.RG hr hD',V5,h.le,by rw [ht]; exact h.ext.grow hf hs hos II hout,h1,h2,h3,h4,fun k hk ay aC => ?_,fun k l x z hk hl ay hDl aC dL hxk hyl => ?_,later,fun i x hx => ?_⟩
  ·rw [ht];by_cases hkj:k=j
   ·subst hkj;refine ⟨y,b,ob,Rho.Zn r _ y,hget,hbr.mono ?_,hu,by omega,fun hh => ?_,hgn,fun ⟨i,z,g,e1,e2,e3,e4⟩ => ?_⟩
    ·rw [Rho.ZaJ (Nat.lt_succ_self _)];exact Rho.Le (Rho.RF r.le_refl (by omega))
    ·have:=h.ext.rel.lt hh;omega
    ·have:=(h.ext.rel.safe i z g e1 e2).1;omega
   ·obtain ⟨x,c,oc,g1,g2,g3,g4,g5,g6,g7,g8,g9⟩:=old hk (((hD' k).1 ay).resolve_right hkj) aC;exact ⟨x,c,oc,g1,g2,g3,g4,g5,g6,g8,g9⟩
  ·intro hxz;by_cases hkj:k=j <;> by_cases hlj:l=j
   ·omega
   ·subst hkj;rw [Rho.Zn] at hxk;cases hxk;obtain ⟨x',c,oc,g1,g2,g3,g4,g5,g6,g7⟩:=old hl (((hD' l).1 hDl).resolve_right hlj) dL;rw [g1] at hyl;cases hyl;omega
   ·subst hlj;rw [Rho.Zn] at hyl;cases hyl;obtain ⟨x',c,oc,g1,g2,g3,g4,g5,g6,g7⟩:=old hk (((hD' k).1 ay).resolve_right hkj) aC;rw [g1] at hxk;cases hxk;omega
   ·rw [Rho.Zx r y (ne aC hkj)] at hxk;rw [Rho.Zx r y (ne dL hlj)] at hyl;exact h.apart k l x z hk hl (((hD' k).1 ay).resolve_right hkj) (((hD' l).1 hDl).resolve_right hlj) aC dL hxk hyl hxz
  ·by_cases hi:i=(st j).next
   ·exact .inr ⟨j,hge,(hD' j).2 (.inr rfl),hM,hi⟩
   ·rw [Rho.Zx r y hi] at hx;rcases h.known i x hx with g | ⟨k,g1,g2,g3,g4⟩
    ·exact .inl g
    ·exact .inr ⟨k,g1,(hD' k).2 (.inl g2),g3,g4⟩
end
end Ev
end Go.Proofs.YtheflbaejhlboaaGreatDoor
