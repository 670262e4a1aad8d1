/- Lemmas for a law of confluencetop. -/
import Derived.Test.YtheflbaejhlboaaGreatDoorTopNe6
import Derived.LoopN
import Derived.Scope
import Derived.Orders
set_option linter.all false
namespace Go.Proofs.YtheflbaejhlboaaGreatDoor
namespace Ev
open Go
variable [Sig] {P:Program}
structure Qr (K:ZK) (r:Rho) (e:Env) (a:Act):Prop where
 env:∀ t v,e.get t=some v->K.Zf t=true/\VR r v (a.tmps.getD t undef)
 size:K.n<=a.tmps.size
 defers:a.defers=[]
def Vt (n:Nat):Al->Prop
 | .nil=>True
 | .loc _ i l=>i<n/\Vt n l
 | .same _ _ l=>Vt n l
 | .const _ _ l=>Vt n l
theorem Vt.mono {n m:Nat} (h:n<=m):∀ {al:Al},Vt n al->Vt m al
 | .nil,_=>trivial
 | .loc _ _ al,h1=>⟨Nat.lt_of_lt_of_le h1.1 h,Vt.mono (al:=al) h h1.2⟩
 | .same _ _ al,h1=>Vt.mono (al:=al) h (show Vt n al from h1)
 | .const _ _ al,h1=>Vt.mono (al:=al) h (show Vt n al from h1)
structure Inv (K:ZK) (r:Rho) (s:St) (w:World) (l:List Zb) (e0 e:Env) (n:Nat) (al:Al) (a:Act):Prop where
 rel:Rel r s w
 env:Qr K r e a
 ali:∀ t v,Zl l e0 (Z3 n al t) = .ok v->VR r v (a.tmps.getD t undef)
 lts:Vt n al
theorem Inv.start {K:ZK} {r:Rho} {s:St} {w:World} {e:Env} {a:Act} (h:Rel r s w) (he:Qr K r e a):Inv K r s w [] e e 0 .nil a :=
 ⟨h,he,fun t v hv=>(he.env t v (F6 hv)).2,trivial⟩
theorem Inv.cx {K:ZK} {r:Rho} {s:St} {w:World} {l:List Zb} {e0 e:Env} {n:Nat} {al:Al} {a:Act} (h:Inv K r s w l e0 e n al a) (o:Op):Cx r l e0 (Jz n al) a o:=by
 intro x _ v hv;cases x with
 | tmp t=>exact h.ali t v hv
 | const u =>
  have hv:Zl l e0 (P9 u) = .ok v:=hv;unfold P9 at hv;split at hv
  ·rename_i b hb;cases hv;exact SY r u _ hb
  ·cases hv
 | func f =>
  cases hv;exact .func f .nil .nil
 | _=>cases hv
theorem Zfb {l:List Zb} {v:Zb} {n i:Nat} (h:i<n):KC (n+1-1-i) (v::l)=KC (n-1-i) l:=by
 have:n+1-1-i=(n-1-i)+1:=by omega
 rw [this];rfl
theorem KN {l:List Zb} {e0:Env} {v:Zb} {n:Nat} (t:Tmp):∀ {al:Al},Vt n al->Zl (v::l) e0 (Z3 (n+1) al t)=Zl l e0 (Z3 n al t)
 | .nil,_=>rfl
 | .loc u i al,h=>by
  simp only [Z3];cases Nat.beq t u
  ·exact KN t h.2
  ·exact Zfb h.1
 | .same u x al,h=>by
  simp only [Z3];cases Nat.beq t u
  ·exact KN t (al:=al) h
  ·rfl
 | .const u x al,h=>by
  simp only [Z3];cases Nat.beq t u
  ·exact KN t (al:=al) h
  ·show Zl (v::l) e0 (P9 x)=Zl l e0 (P9 x);unfold P9;split <;> rfl
theorem JJ {a:Act} {d:Tmp} {u:Value} (h:d<a.tmps.size):(a.put (some d) u).tmps.getD d undef=u:=by
 simp [Act.put,h]
theorem Ju {a:Act} {d t:Tmp} {u:Value} (h:d≠t):(a.put (some d) u).tmps.getD t undef=a.tmps.getD t undef:=by
 simp [Act.put,Array.getElem?_setIfInBounds_ne h]
theorem RW (a:Act) (d:Option Tmp) (u:Value):(a.put d u).tmps.size=a.tmps.size:=by
 cases d <;> simp [Act.put]
theorem RX (a:Act) (d:Option Tmp) (u:Value):(a.put d u).defers=a.defers:=by
 cases d <;> rfl
theorem Qr.put {K:ZK} {r q:Rho} {e:Env} {a:Act} (h:Qr K r e a) (hle:r.le q) {o:Oper} (hd:QB K o=true) {v:Zb} {u:Value} (hv:VR q v u) :
  Qr K q (Wk e v (Xb K o)) (a.put o.dst u):=by
 refine ⟨fun t x hx => ?_,by rw [RW]; exact h.size,by rw [RX]; exact h.defers⟩;unfold QB at hd;unfold Xb at hx;cases ho:o.dst with
 | none =>
  rw [ho] at hx;have hx:e.get t=some x:=hx;obtain ⟨h1,h2⟩:=h.env t x hx;exact ⟨h1,h2.mono hle⟩
 | some d =>
  rw [ho] at hx hd;have hdn:d<a.tmps.size:=Nat.lt_of_lt_of_le (QI hd) h.size;simp only at hx;cases hk:K.Zf d
  ·rw [hk] at hx;have hx:e.get t=some x:=hx;obtain ⟨h1,h2⟩:=h.env t x hx;have hne:d≠t:=fun e=>by subst e; rw [hk] at h1; cases h1
   exact ⟨h1,by rw [Ju hne]; exact h2.mono hle⟩
  ·rw [hk] at hx;have hx:(e.set d (some v)).get t=some x:=hx;rw [JN] at hx;by_cases hdt:d=t
   ·subst hdt;rw [if_pos rfl] at hx;cases hx;exact ⟨hk,by rw [JJ hdn]; exact hv⟩
   ·rw [if_neg hdt] at hx;obtain ⟨h1,h2⟩:=h.env t x hx;exact ⟨h1,by rw [Ju hdt]; exact h2.mono hle⟩
theorem Inv.step {K:ZK} {r q:Rho} {s s1:St} {w w1:World} {l:List Zb} {e0 e:Env} {n:Nat} {al:Al} {a:Act} (h:Inv K r s w l e0 e n al a) {o:Oper} (hd:QB K o=true)
  {v:Zb} {u:Value} (hv:VR q v u) (hx:Ext r s w q s1 w1):Inv K q s1 w1 (v::l) e0 (Wk e v (Xb K o)) (n+1) (Qk n al o) (a.put o.dst u):=by
 refine ⟨hx.rel,h.env.put hx.le hd hv,fun t x ht => ?_,?_⟩
 ·unfold Qk at ht;unfold QB at hd;cases ho:o.dst with
  | none =>
   rw [ho] at ht;have ht:Zl (v::l) e0 (Z3 (n+1) al t) = .ok x:=ht;rw [KN t h.lts] at ht;exact (h.ali t x ht).mono hx.le
  | some d =>
   rw [ho] at ht hd;have hdn:d<a.tmps.size:=Nat.lt_of_lt_of_le (QI hd) h.env.size;simp only [Z3] at ht;cases hb:Nat.beq t d
   ·rw [hb] at ht;have ht:Zl (v::l) e0 (Z3 (n+1) al t) = .ok x:=ht;rw [KN t h.lts] at ht;rw [Ju (Ne.symm (JD hb))];exact (h.ali t x ht).mono hx.le
   ·rw [hb] at ht;have:=ZF hb;subst this;have ht:KC (n+1-1-n) (v::l) = .ok x:=ht;rw [show n+1-1-n=0 by omega] at ht;cases ht;rw [JJ hdn];exact hv
 ·unfold Qk;cases o.dst with
  | none=>exact h.lts.mono (Nat.le_succ n)
  | some d=>exact ⟨Nat.lt_succ_self n,h.lts.mono (Nat.le_succ n)⟩
theorem WM (n:Nat) (d t:Tmp):∀ (al:Al),(∃ u,Ye al d t = .same d u/\Z3 n al t = .tmp (bits u))\/(∃ i,Ye al d t = .loc d i/\Z3 n al t = .loc (n-1-i)/\(Vt n al->i<n)) \/
   (∃ v,Ye al d t = .const d v/\Z3 n al t=P9 v)
 | .nil => .inl ⟨t,rfl,rfl⟩
 | .loc u i al=>by
  simp only [Ye,Z3];cases Nat.beq t u
  ·rcases WM n d t al with h | ⟨j,h1,h2,h3⟩ | h
   ·exact .inl h
   ·exact .inr (.inl ⟨j,h1,h2,fun h=>h3 h.2⟩)
   ·exact .inr (.inr h)
  ·exact .inr (.inl ⟨i,rfl,rfl,fun h=>h.1⟩)
 | .same u x al=>by
  simp only [Ye,Z3];cases Nat.beq t u
  ·exact WM n d t al
  ·exact .inl ⟨x,rfl,rfl⟩
 | .const u x al=>by
  simp only [Ye,Z3];cases Nat.beq t u
  ·exact WM n d t al
  ·exact .inr (.inr ⟨x,rfl,rfl⟩)
theorem Di {K:ZK} {al:Al} {o:Oper} (h:Ep K al o ≠ .no):∃ d,o.guard=none/\o.dst=some d/\K.Zf d=false/\Ep K al o=Zb5 al d o.op:=by
 unfold Ep at h ⊢;split at h
 ·rename_i d hg hd;cases hk:K.Zf d
  ·exact ⟨d,hg,hd,hk,rfl⟩
  ·rw [hk] at h; exact absurd rfl h
 ·exact absurd rfl h
theorem Dj {al:Al} {d:Tmp} {op:Op} (h:Zb5 al d op ≠ .no):(∃ v,op = .move (.const v)/\Zb5 al d op = .const d v)\/(∃ t,op = .move (.tmp t)/\Zb5 al d op=Ye al d t):=by
 unfold Zb5 at h ⊢;split at h
 ·exact .inl ⟨_,rfl,rfl⟩
 ·exact .inr ⟨_,rfl,rfl⟩
 ·exact absurd rfl h
theorem Inv.move {K:ZK} {r:Rho} {s:St} {w:World} {l:List Zb} {e0 e:Env} {n:Nat} {al al':Al} {a:Act} (h:Inv K r s w l e0 e n al a) {d:Tmp} (hk:K.Zf d=false) (hd:Nat.blt d K.n=true)
  {u:Value} (h1:∀ t,t≠d->Z3 n al' t=Z3 n al t) (h2:∀ v,Zl l e0 (Z3 n al' d) = .ok v->VR r v u) (h3:Vt n al') :
  Inv K r s w l e0 e n al' (a.put (some d) u):=by
 have hdn:d<a.tmps.size:=Nat.lt_of_lt_of_le (QI hd) h.env.size;refine ⟨h.rel,⟨fun t v ht => ?_,by rw [RW]; exact h.env.size,by rw [RX]; exact h.env.defers⟩,fun t v ht => ?_,h3⟩
 ·obtain ⟨h4,h5⟩:=h.env.env t v ht;have hne:d≠t:=fun e=>by subst e; rw [hk] at h4; cases h4
  exact ⟨h4,by rw [Ju hne]; exact h5⟩
 ·by_cases hdt:t=d
  ·subst hdt;rw [JJ hdn];exact h2 v ht
  ·rw [h1 t hdt] at ht;rw [Ju (Ne.symm hdt)];exact h.ali t v ht
end Ev
namespace Ev
open Go
variable [Sig] {P:Program}
theorem Lp {v:Zb} {b:Bool} (h:Wd v=some b):v = .bool b:=by
 unfold Wd at h;split at h
 ·cases h; rfl
 ·cases h
theorem Ey {r:Rho} {v:Zb} {u:Value} (h:Wd v=none) (hv:VR r v u) (b:Bool):u ≠ .bool b:=by
 rintro rfl;cases hv
 ·cases h
 ·rename_i g _ _ hu _;exact g.nob b hu
theorem Ro (a b:Bool):Nx a b=(a==b):=by cases a <;> cases b <;> rfl
theorem Zfc {a:Act} {t:Tmp} {b:Bool} (h:a.tmps.getD t undef = .bool b):a.tmps[t]? = some (.bool b):=by
 rw [Array.getD_eq_getD_getElem?] at h;cases hx:a.tmps[t]? with
 | none=>rw [hx] at h; cases h
 | some u=>rw [hx] at h; exact congrArg some h
theorem Zfd {a:Act} {t:Tmp} {u:Value} (h:a.tmps[t]? = some u):a.tmps.getD t undef=u:=by
 rw [Array.getD_eq_getD_getElem?,h];rfl
theorem YM {r:Rho} {l:List Zb} {e0:Env} {co:Cod} {a:Act} {ops:Array Oper} {o:Oper} (hc:∀ t∈RR ops o,∀ v,Zl l e0 (co (.tmp t)) = .ok v->VR r v (a.tmps.getD t undef)) :
  (wanted l e0 (guardOf co ops o) = .yes->Region.wanted o (yielded ops a.tmps)=true)/\(wanted l e0 (guardOf co ops o) = .no->Region.wanted o (yielded ops a.tmps)=false):=by
 cases hg:o.guard with
 | none =>
  have h1:guardOf co ops o=none:=by unfold guardOf; rw [hg]
  have h2:Region.wanted o (yielded ops a.tmps)=true:=by unfold Region.wanted; rw [hg]
  rw [h1,h2];exact ⟨fun _=>rfl,fun h=>(by cases h)⟩
 | some jw =>
  obtain ⟨j,want⟩:=jw;have h2:Region.wanted o (yielded ops a.tmps)=(yielded ops a.tmps j==some want):=by unfold Region.wanted; rw [hg]
  rw [h2];cases ht:(ops[j]?).bind (·.dst) with
  | none =>
   have h1:guardOf co ops o=some (.bad,want):=by unfold guardOf; rw [hg]; simp only [ht]
   rw [h1];exact ⟨fun h=>(by cases h),fun h=>(by cases h)⟩
  | some t =>
   have h1:guardOf co ops o=some (co (.tmp t),want):=by unfold guardOf; rw [hg]; simp only [ht]
   rw [h1];show (wtV want (Zl l e0 (co (.tmp t))) = .yes->(yielded ops a.tmps j==some want)=true)/\(wtV want (Zl l e0 (co (.tmp t))) = .no->(yielded ops a.tmps j==some want)=false)
   cases hv:Zl l e0 (co (.tmp t)) with
   | bad=>exact ⟨fun h=>(by cases h),fun h=>(by cases h)⟩
   | ok v =>
    have aP:=hc t (by unfold RR; rw [hg]; simp only [ht]; exact List.mem_singleton.2 rfl) v hv
    have hy:yielded ops a.tmps j=Wd v:=by
     unfold yielded;rw [ht];cases hb:Wd v with
     | some b =>
      have:=Lp hb;subst this
      generalize hg2:a.tmps.getD t undef=g at aP
      cases aP;have:=Zfc hg2;simp [this]
     | none =>
      have hn:=Ey hb aP;simp only [Option.bind_some];split
      ·rename_i b hb';exact absurd (Zfd hb') (hn b)
      ·rfl
    rw [hy];show (sel (isB want (Wd v)) Wt.yes Wt.no = .yes->_)/\(sel (isB want (Wd v)) Wt.yes Wt.no = .no->_)
    cases hb:Wd v with
    | none=>exact ⟨fun h=>(by cases h),fun _=>(by cases want <;> rfl)⟩
    | some b =>
     have:isB want (some b)=(b==want):=Ro b want;rw [this];cases b <;> cases want <;> exact ⟨fun h=>(by first | rfl | cases h),fun h=>(by first | rfl | cases h)⟩
theorem Zfe {go:List Zb->Env->St->Res} {l:List Zb} {e0 e e':Env} {s s':St} {x:Ex} {run:Cl} {d:Option (List Bool)} {g:Option (Qj×Bool)} (h:Zh1 go l e0 e s (.mk run d g) = .ok x e' s') :
  ∃ v s1,((wanted l e0 g = .yes/\run.run l e0 s = .ok v s1)\/(wanted l e0 g = .no/\v=QH/\s1=s))/\go (v::l) (Wk e v d) s1 = .ok x e' s':=by
 have h:@Wt.rec (fun _=>Res) (@R.rec (fun _=>Res) (fun v s=>go (v::l) (Wk e v d) s) .bad (run.run l e0 s)) (go (QH::l) (Wk e QH d) s) .bad (wanted l e0 g) = .ok x e' s':=h;cases hw:wanted l e0 g with
 | yes =>
  rw [hw] at h;cases hr:run.run l e0 s with
  | bad=>rw [hr] at h; cases h
  | ok v s1=>rw [hr] at h; exact ⟨v,s1,.inl ⟨rfl,rfl⟩,h⟩
 | no=>rw [hw] at h; exact ⟨QH,s,.inr ⟨rfl,rfl,rfl⟩,h⟩
 | bad=>rw [hw] at h; cases h
theorem Yt {ops:Array Oper} {Q:Exit->Act->World->Prop} {i:Nat} {rest:List Nat} {o:Oper} {a:Act} {w:World} (ho:ops[i]? = some o)
  (h1:Region.wanted o (yielded ops a.tmps)=true->o.wp P a w (wpOps P ops Q rest) Q) (h2:Region.wanted o (yielded ops a.tmps)=false->wpOps P ops Q rest (a.put o.dst undef) w) :
  wpOps P ops Q (i::rest) a w:=by
 simp only [wpOps,ho];split
 ·rename_i h; exact .inl (h1 h)
 ·rename_i h; exact h2 (by simpa using h)
theorem mX {t:Nat}:Nat.beq t t=true:=Nat.beq_refl t
theorem Zff {t d:Nat} (h:t≠d):Nat.beq t d=false:=by
 cases hb:Nat.beq t d
 ·rfl
 ·exact absurd (ZF hb) h
structure MvF (K:ZK) (n:Nat) (al:Al) (o:Oper) (d:Tmp) (al':Al):Prop where
 guard:o.guard=none
 dst:o.dst=some d
 Zf:K.Zf d=false
 op:∃ x,o.op = .move x/\Z3 n al' d=Jz n al x
 other:∀ t,t≠d->Z3 n al' t=Z3 n al t
 lts:Vt n al->Vt n al'
theorem Zfg {K:ZK} {al:Al} {o:Oper} {d:Tmp} {v:Value} (n:Nat) (h:Ep K al o = .const d v):MvF K n al o d (.const d v al):=by
 obtain ⟨d',hg,hd,hk,hm⟩:=Di (K:=K) (al:=al) (o:=o) (by rw [h]; intro e; cases e);rw [hm] at h
 have mY:∀ t,t≠d->Z3 n (.const d v al) t=Z3 n al t:=fun t ht=>by
  simp only [Z3,Zff ht];rfl
 rcases Dj (al:=al) (d:=d') (op:=o.op) (by rw [h]; intro e; cases e) with ⟨u,hop,h1⟩ | ⟨t,hop,h1⟩
 ·rw [h1] at h;cases h;refine ⟨hg,hd,hk,⟨_,hop,?_⟩,mY,fun h=>h⟩;simp only [Z3,mX];rfl
 ·rw [h1] at h;rcases WM n d' t al with ⟨u,h2,h3⟩ | ⟨j,h2,h3,h4⟩ | ⟨u,h2,h3⟩
  ·rw [h2] at h; cases h
  ·rw [h2] at h; cases h
  ·rw [h2] at h;cases h;refine ⟨hg,hd,hk,⟨_,hop,?_⟩,mY,fun h=>h⟩;simp only [Z3,mX];exact h3.symm
theorem Zg1 {K:ZK} {al:Al} {o:Oper} {d u:Tmp} (n:Nat) (h:Ep K al o = .same d u):MvF K n al o d (.same d u al):=by
 obtain ⟨d',hg,hd,hk,hm⟩:=Di (K:=K) (al:=al) (o:=o) (by rw [h]; intro e; cases e);rw [hm] at h
 have mY:∀ t,t≠d->Z3 n (.same d u al) t=Z3 n al t:=fun t ht=>by
  simp only [Z3,Zff ht];rfl
 rcases Dj (al:=al) (d:=d') (op:=o.op) (by rw [h]; intro e; cases e) with ⟨u,hop,h1⟩ | ⟨t,hop,h1⟩
 ·rw [h1] at h;cases h
 ·rw [h1] at h;rcases WM n d' t al with ⟨u,h2,h3⟩ | ⟨j,h2,h3,h4⟩ | ⟨u,h2,h3⟩
  ·rw [h2] at h;cases h;refine ⟨hg,hd,hk,⟨_,hop,?_⟩,mY,fun h=>h⟩;simp only [Z3,mX];exact h3.symm
  ·rw [h2] at h; cases h
  ·rw [h2] at h; cases h
theorem Zj6 {K:ZK} {al:Al} {o:Oper} {d:Tmp} {i:Nat} (n:Nat) (h:Ep K al o = .loc d i) (hl:Vt n al):MvF K n al o d (.loc d i al):=by
 obtain ⟨d',hg,hd,hk,hm⟩:=Di (K:=K) (al:=al) (o:=o) (by rw [h]; intro e; cases e);rw [hm] at h
 have mY:∀ t,t≠d->Z3 n (.loc d i al) t=Z3 n al t:=fun t ht=>by
  simp only [Z3,Zff ht];rfl
 rcases Dj (al:=al) (d:=d') (op:=o.op) (by rw [h]; intro e; cases e) with ⟨u,hop,h1⟩ | ⟨t,hop,h1⟩
 ·rw [h1] at h;cases h
 ·rw [h1] at h;rcases WM n d' t al with ⟨u,h2,h3⟩ | ⟨j,h2,h3,h4⟩ | ⟨u,h2,h3⟩
  ·rw [h2] at h; cases h
  ·rw [h2] at h;cases h;refine ⟨hg,hd,hk,⟨_,hop,?_⟩,mY,fun h=>⟨h4 h,h⟩⟩;simp only [Z3,mX];exact h3.symm
  ·rw [h2] at h; cases h
theorem VE {call:Zz} (hcall:Z7 P call) {K:ZK} {ops:Array Oper} {e0:Env} {Q:Exit->Act->World->Prop}:∀ (rest:List Oper) (i:Nat),ops.toList.drop i=rest ->
  ∀ (n:Nat) (al:Al) (l:List Zb) (e e':Env) (s s':St) (x:Ex) (a:Act) (w:World) (r:Rho),Inv K r s w l e0 e n al a ->
  Ys e0 (JO P call K ops rest n al) l e s = .ok x e' s' ->
  (∀ q a' w',Ext r s w q s' w'->Qr K q e' a'->x = .normal->Q .normal a' w')->wpOps P ops Q (List.range' i rest.length) a w
 | [],i,_,n,al,l,e,e',s,s',x,a,w,r,inv,h,hQ=>by
  cases h;exact hQ r a w (Ext.refl inv.rel) inv.env rfl
 | o::rest,i,hd,n,al,l,e,e',s,s',x,a,w,r,inv,h,hQ=>by
  have ho:ops[i]? = some o:=by
   rw [<- Array.getElem?_toList,<- List.head?_drop,hd];rfl
  have hd':ops.toList.drop (i+1)=rest:=by rw [<- List.drop_drop,hd]; rfl
  rw [List.length_cons,List.range'_succ]
  have lT:∀ (d:Tmp) (al':Al),MvF K n al o d al'->Ys e0 (sel (QB K o) (JO P call K ops rest n al') (.cons Zb6 .nil)) l e s = .ok x e' s' ->
    wpOps P ops Q (i::List.range' (i+1) rest.length) a w:=by
   intro d al' hf hrun;cases hdi:QB K o
   ·rw [hdi] at hrun; cases hrun
   ·rw [hdi] at hrun
    have hdn:Nat.blt d K.n=true:=by
     unfold QB at hdi;rw [hf.dst] at hdi;exact hdi
    obtain ⟨y,hop,hty⟩:=hf.op;have hcx:=inv.cx o.op y (by rw [hop]; simp [Op.operands]);have jY:=inv.move (al':=al') (u:=a.eval y) hf.Zf hdn hf.other (fun v hv=>hcx v (by rw [<- hty]; exact hv)) (hf.lts inv.lts);have ih:=VE hcall (Q:=Q) rest (i+1) hd' n al' l e e' s s' x _ w r jY hrun hQ;refine Yt ho (fun _ => ?_) fun hw => ?_
    ·unfold Oper.wp execOp;rw [hop];show wpOps P ops Q _ (a.put o.dst (a.eval y)) w;rw [hf.dst];exact ih
    ·unfold Region.wanted at hw;rw [hf.guard] at hw;cases hw
  unfold JO at h;split at h
  ·rename_i hmv;unfold Te at h;cases hdi:QB K o
   ·rw [hdi] at h; cases h
   ·rw [hdi] at h;obtain ⟨v,s1,h1,h2⟩:=Zfe h;have hwt:=YM (co:=Jz n al) (ops:=ops) (o:=o) fun t _=>inv.ali t;rcases h1 with ⟨h3,h4⟩ | ⟨h3,rfl,rfl⟩
    ·refine Yt ho (fun _ => ?_) fun hw => ?_
     ·refine (PR hcall h4).ok inv.rel (inv.cx _) _ _ fun q u w1 hx hv => ?_;exact VE hcall rest (i+1) hd' (n+1) _ _ _ e' s1 s' x _ w1 q (inv.step hdi hv hx) h2 fun q' a' w' hx'=>hQ q' a' w' (hx.trans hx')
     ·rw [hwt.1 h3] at hw;cases hw
    ·refine Yt ho (fun hw => ?_) fun _ => ?_
     ·rw [hwt.2 h3] at hw;cases hw
     ·exact VE hcall rest (i+1) hd' (n+1) _ _ _ e' s1 s' x _ w r (inv.step hdi (.tuple .nil) (Ext.refl inv.rel)) h2 hQ
  ·rename_i d y hmv;exact lT d _ (Zfg n hmv) h
  ·rename_i d y hmv;exact lT d _ (Zg1 n hmv) h
  ·rename_i d y hmv;exact lT d _ (Zj6 n hmv inv.lts) h
theorem Zcb {call:Zz} (hcall:Z7 P call) {K:ZK} {ops:Array Oper} {id:Nat} {e e':Env} {s s':St} {x:Ex} {a:Act} {w:World} {r:Rho} (hr:Rel r s w) (he:Qr K r e a)
  (h:Er (JO P call K ops ops.toList 0 .nil) e s = .ok x e' s') {Q:Exit->Act->World->Prop} (hQ:∀ q a' w',Ext r s w q s' w'->Qr K q e' a'->x = .normal->Q .normal a' w') :
  (Code.region id ops false).wp P Q a w:=by
 refine wp_region ?_;have:=VE hcall (Q:=Q) ops.toList 0 rfl 0 .nil [] e e' s s' x a w r (Inv.start hr he) h hQ;rw [List.range_eq_range',<- Array.length_toList];exact this
end Ev
namespace Ev
open Go
variable [Sig] {P:Program}
def Ui:Ex->Exit
 | .normal => .normal
 | .exit i => .exit i
 | .goto l => .goto l
 | .ret => .ret
def QJ (P:Program) (K:ZK) (c:Code) (f:Env->St->Res):Prop :=
 ∀ (e:Env) (s:St) (x:Ex) (e':Env) (s':St),f e s = .ok x e' s'->∀ (r:Rho) (w:World) (a:Act) (Q:Exit->Act->World->Prop),Rel r s w->Qr K r e a ->
  (∀ q a' w',Ext r s w q s' w'->Qr K q e' a'->Q (Ui x) a' w')->c.wp P Q a w
def ZlH (P:Program) (K:ZK) (R:Exit->Act->World->Prop) (r:Rho) (s:St) (w:World) (y:Res):Prop :=
 ∀ (x:Ex) (e':Env) (s':St),y = .ok x e' s'->∀ q a' w',Ext r s w q s' w'->Qr K q e' a'->R (Ui x) a' w'
theorem QJ.run {K:ZK} {c:Code} {f:Env->St->Res} (h:QJ P K c f) {e:Env} {s:St} {r:Rho} {w:World} {a:Act} {Q:Exit->Act->World->Prop} (hr:Rel r s w) (he:Qr K r e a)
  (hb:f e s ≠ .bad) (hQ:ZlH P K Q r s w (f e s)):c.wp P Q a w:=by
 cases hf:f e s with
 | bad=>exact absurd hf hb
 | ok x e1 s1=>exact h e s x e1 s1 hf r w a Q hr he fun q a' w' hx he'=>hQ x e1 s1 hf q a' w' hx he'
theorem BM {k:Env->St->Res} {y:Res} {x:Ex} {e':Env} {s':St} (h:BI k y = .ok x e' s'):∃ x1 e1 s1,y = .ok x1 e1 s1/\((x1 = .normal/\k e1 s1 = .ok x e' s')\/(x1 ≠ .normal/\x=x1/\e'=e1/\s'=s1)):=by
 cases y with
 | bad=>cases h
 | ok x1 e1 s1 =>
  refine ⟨x1,e1,s1,rfl,?_⟩;cases x1 with
  | normal=>exact .inl ⟨rfl,h⟩
  | exit i=>cases h; exact .inr ⟨fun e=>(by cases e),rfl,rfl,rfl⟩
  | goto l=>cases h; exact .inr ⟨fun e=>(by cases e),rfl,rfl,rfl⟩
  | ret=>cases h; exact .inr ⟨fun e=>(by cases e),rfl,rfl,rfl⟩
theorem Zj7 {K:ZK} {c d:Code} {f g:Env->St->Res} (hf:QJ P K c f) (hg:QJ P K d g):QJ P K (.seq c d) (fun e s=>BI g (f e s)):=by
 intro e s x e' s' h r w a Q hr he hQ;obtain ⟨x1,e1,s1,h1,h2⟩:=BM h;refine wp_seq (hf e s x1 e1 s1 h1 r w a _ hr he fun q a1 w1 hx he1 => ?_);rcases h2 with ⟨rfl,h2⟩ | ⟨hn,rfl,rfl,rfl⟩
 ·exact hg e1 s1 x e' s' h2 q w1 a1 Q hx.rel he1 fun q' a' w' hx' he'=>hQ q' a' w' (hx.trans hx') he'
 ·have:=hQ q a1 w1 hx he1;cases x with
  | normal=>exact absurd rfl hn
  | exit i=>exact this
  | goto l=>exact this
  | ret=>exact this
theorem Zcc {i:Nat} {y:Res} {x:Ex} {e':Env} {s':St} (h:Se i y = .ok x e' s'):∃ x1,y = .ok x1 e' s'/\((x1 = .exit i/\x = .normal)\/(x1 ≠ .exit i/\x=x1)):=by
 cases y with
 | bad=>cases h
 | ok x1 e1 s1 =>
  cases x1 with
  | normal=>cases h; exact ⟨_,rfl,.inr ⟨fun e=>(by cases e),rfl⟩⟩
  | exit j =>
   have h:sel (Nat.beq i j) (Res.ok .normal e1 s1) (.ok (.exit j) e1 s1) = .ok x e' s':=h;cases hb:Nat.beq i j
   ·rw [hb] at h;cases h;exact ⟨_,rfl,.inr ⟨fun e=>(by cases e; exact JD hb rfl),rfl⟩⟩
   ·rw [hb] at h;cases h;have:=ZF hb;subst this;exact ⟨_,rfl,.inl ⟨rfl,rfl⟩⟩
  | goto l=>cases h; exact ⟨_,rfl,.inr ⟨fun e=>(by cases e),rfl⟩⟩
  | ret=>cases h; exact ⟨_,rfl,.inr ⟨fun e=>(by cases e),rfl⟩⟩
theorem Zfh {K:ZK} {i:Nat} {c:Code} {f:Env->St->Res} (hf:QJ P K c f):QJ P K (.block i c) (fun e s=>Se i (f e s)):=by
 intro e s x e' s' h r w a Q hr he hQ;obtain ⟨x1,h1,h2⟩:=Zcc h;refine wp_block (hf e s x1 e' s' h1 r w a _ hr he fun q a1 w1 hx he1 => ?_);have:=hQ q a1 w1 hx he1;rcases h2 with ⟨rfl,rfl⟩ | ⟨hn,rfl⟩
 ·show (if i=i then Q .normal a1 w1 else Q (.exit i) a1 w1);rw [if_pos rfl];exact this
 ·cases x with
  | normal=>exact this
  | exit j =>
   show (if j=i then Q .normal a1 w1 else Q (.exit j) a1 w1);rw [if_neg fun e=>hn (by rw [e])];exact this
  | goto l=>exact this
  | ret=>exact this
theorem Zg2 {K:ZK} {x:Operand} {c d:Code} {f g:Env->St->Res} (hf:QJ P K c f) (hg:QJ P K d g):QJ P K (.cond x c d) (fun e s=>Ze7 f g e s (Zl [] e (Jz 0 .nil x))):=by
 intro e s y e' s' h r w a Q hr he hQ;have h:Ze7 f g e s (Zl [] e (Jz 0 .nil x)) = .ok y e' s':=h;cases hv:Zl [] e (Jz 0 .nil x) with
 | bad=>rw [hv] at h; cases h
 | ok v =>
  rw [hv] at h;have h:Zh3 f g e s (Wd v) = .ok y e' s':=h;have hc:=(Inv.start hr he).cx (.move x) x (by simp [Op.operands]) v hv;cases hb:Wd v with
  | none=>rw [hb] at h; cases h
  | some b =>
   have:=Lp hb;subst this
   generalize hg2:a.eval x=u at hc
   cases hc;rw [hb] at h;cases b
   ·exact wp_cond_false hg2 (hg e s y e' s' h r w a Q hr he hQ)
   ·exact wp_cond_true hg2 (hf e s y e' s' h r w a Q hr he hQ)
end Ev
namespace Ev
open Go
variable [Sig] {P:Program}
theorem Zg3 {K:ZK} {c:Code} {f:Env->St->Res} (hf:QJ P K c f) (n:Nat):QJ P K (.loop c) (Ze8 f n):=by
 intro e s x e' s' h r w a Q hr he hQ;refine wp_loop_rounds n ?_
 induction n generalizing e s r w a with
 | zero=>cases h
 | succ n ih =>
  have h:BI (Ze8 f n) (f e s) = .ok x e' s':=h;obtain ⟨x1,e1,s1,h1,h2⟩:=BM h;rw [rounds_succ];refine hf e s x1 e1 s1 h1 r w a _ hr he fun q a1 w1 hx he1 => ?_;rcases h2 with ⟨rfl,h2⟩ | ⟨hn,rfl,rfl,rfl⟩
  ·exact ih e1 s1 h2 q w1 a1 hx.rel he1 fun q' a' w' hx' he'=>hQ q' a' w' (hx.trans hx') he'
  ·have:=hQ q a1 w1 hx he1;cases x with
   | normal=>exact absurd rfl hn
   | exit i=>exact this
   | goto l=>exact this
   | ret=>exact this
def YN (P:Program) (body c:Code) (Q:Exit->Act->World->Prop) (a:Act) (w:World):Prop :=
 ∀ (b:Frame) (k:List Item) (cs:List Frame),∃ e a' w',Q e a' w'/\Arrives P (lone (b.at a (.code c :: .inScope body::k)) cs w) b k cs e a' w'
def S8 (P:Program) (body:Code) (Q:Exit->Act->World->Prop):Exit->Act->World->Prop
 | .goto l,a,w=>match findLabel body l with
  | some rest=>YN P body rest Q a w
  | none=>Q (.goto l) a w
 | e,a,w=>Q e a w
theorem Dk {body c:Code} {Q:Exit->Act->World->Prop} {a:Act} {w:World} (h:c.wp P (S8 P body Q) a w):YN P body c Q a w:=by
 intro b k cs;obtain ⟨e,a₁,w₁,hq,harr⟩:=h b (.inScope body::k) cs;cases e with
 | normal=>exact ⟨.normal,a₁,w₁,hq,Steps.trans harr (.one step_inScope)⟩
 | exit id=>exact ⟨.exit id,a₁,w₁,hq,fun k' hk=>harr k' (by simp [exitTo,hk])⟩
 | goto l =>
  cases hl:findLabel body l with
  | some rest =>
   simp only [S8,hl] at hq;obtain ⟨e₂,a₂,w₂,hq₂,harr₂⟩:=hq b k cs;exact ⟨e₂,a₂,w₂,hq₂,.of_steps (harr (.code rest :: .inScope body::k) (by simp [gotoIn,hl])) harr₂⟩
  | none =>
   simp only [S8,hl] at hq;exact ⟨.goto l,a₁,w₁,hq,fun k' hk=>harr k' (by simp [gotoIn,hl,hk])⟩
 | ret=>exact ⟨.ret,a₁,w₁,hq,harr⟩
 | panic ch=>exact ⟨.panic ch,a₁,w₁,hq,harr⟩
 | outgrown=>exact ⟨.outgrown,a₁,w₁,hq,harr⟩
theorem BN {body:Code} {Q:Exit->Act->World->Prop} {a:Act} {w:World} (h:YN P body body Q a w):(Code.scope body).wp P Q a w:=by
 intro b k cs;obtain ⟨e,a',w',hq,harr⟩:=h b k cs;exact ⟨e,a',w',hq,.of_steps (.one step_scope) harr⟩
theorem Lq {K:ZK} {body:Code} {ex:CC->Env->St->Res} {rest:Nat->Option CC}
  (hrest:∀ l,match findLabel body l with
   | some c=>∃ cc,rest l=some cc/\QJ P K c (ex cc)
   | none=>rest l=none) :
  ∀ (n:Nat) (c:Code) (f:Env->St->Res),QJ P K c f->∀ (e:Env) (s:St) (x:Ex) (e':Env) (s':St),Dg ex rest n (f e s) = .ok x e' s' ->
   ∀ (r:Rho) (w:World) (a:Act) (Q:Exit->Act->World->Prop),Rel r s w->Qr K r e a->(∀ q a' w',Ext r s w q s' w'->Qr K q e' a'->Q (Ui x) a' w')->YN P body c Q a w
 | 0,c,f,hf,e,s,x,e',s',h,r,w,a,Q,hr,he,hQ=>by cases h
 | n+1,c,f,hf,e,s,x,e',s',h,r,w,a,Q,hr,he,hQ=>by
  have h:ZaT ex rest (Dg ex rest n) (f e s) = .ok x e' s':=h;refine Dk ?_;cases hy:f e s with
  | bad=>rw [hy] at h; cases h
  | ok x1 e1 s1 =>
   rw [hy] at h;refine hf e s x1 e1 s1 hy r w a _ hr he fun q a1 w1 hx he1 => ?_;cases x1 with
   | normal=>cases h; exact hQ q a1 w1 hx he1
   | exit i=>cases h; exact hQ q a1 w1 hx he1
   | ret=>cases h; exact hQ q a1 w1 hx he1
   | goto l =>
    have h:Ze9 ex (Dg ex rest n) l e1 s1 (rest l) = .ok x e' s':=h;have hl:=hrest l;cases hfl:findLabel body l with
    | none =>
     rw [hfl] at hl;have hl:rest l=none:=hl;rw [hl] at h;cases h;show (match findLabel body l with | some rest=>YN P body rest Q a1 w1 | none=>Q (.goto l) a1 w1);rw [hfl];exact hQ q a1 w1 hx he1
    | some c1 =>
     rw [hfl] at hl;obtain ⟨cc1,hl,hc1⟩:=hl;rw [hl] at h;show (match findLabel body l with | some rest=>YN P body rest Q a1 w1 | none=>Q (.goto l) a1 w1);rw [hfl];exact Lq hrest n c1 (ex cc1) hc1 e1 s1 x e' s' h q w1 a1 Q hx.rel he1 fun q' a' w' hx' he'=>hQ q' a' w' (hx.trans hx') he'
def Qv (T:Nat->Array Oper->Bool->Prop):Code->Prop
 | .region id ops d=>T id ops d
 | .seq a b=>Qv T a/\Qv T b
 | .cond _ a b=>Qv T a/\Qv T b
 | .block _ b=>Qv T b
 | .loop b=>Qv T b
 | .scope b=>Qv T b
 | _=>True
theorem Qv.label {T:Nat->Array Oper->Bool->Prop} {l:Nat}:∀ {c rest:Code},Qv T c->findLabel c l=some rest->Qv T rest
 | .seq a b,rest,h,hf=>by
  simp only [findLabel] at hf;split at hf
  ·rename_i ra hra;cases hf;exact ⟨Qv.label h.1 hra,h.2⟩
  ·exact Qv.label h.2 hf
 | .label l',rest,h,hf=>by
  simp only [findLabel] at hf;split at hf
  ·cases hf; trivial
  ·cases hf
 | .skip,_,_,hf=>by cases hf
 | .region _ _ _,_,_,hf=>by cases hf
 | .cond _ _ _,_,_,hf=>by cases hf
 | .block _ _,_,_,hf=>by cases hf
 | .loop _,_,_,hf=>by cases hf
 | .rangeFunc _ _ _ _,_,_,hf=>by cases hf
 | .exit _,_,_,hf=>by cases hf
 | .scope _,_,_,hf=>by cases hf
 | .goto _,_,_,hf=>by cases hf
 | .ret,_,_,hf=>by cases hf
 | .refuse _,_,_,hf=>by cases hf
theorem Qv.all {T:Nat->Array Oper->Bool->Prop} (h:∀ id ops d,T id ops d):∀ c,Qv T c
 | .region id ops d=>h id ops d
 | .seq a b=>⟨Qv.all h a,Qv.all h b⟩
 | .cond _ a b=>⟨Qv.all h a,Qv.all h b⟩
 | .block _ b=>Qv.all h b
 | .loop b=>Qv.all h b
 | .scope b=>Qv.all h b
 | .skip=>trivial
 | .label _=>trivial
 | .rangeFunc _ _ _ _=>trivial
 | .exit _=>trivial
 | .goto _=>trivial
 | .ret=>trivial
 | .refuse _=>trivial
def M6 (P:Program) (call:Zz) (K:ZK):Prop:=∀ id ops,QJ P K (.region id ops true) (Zb8 P call K ops (Q7 P ops ops.toList (Zw ops.toList []))).run
def Zbd (P:Program) (K:ZK) (kn:Kw) (id:Nat) (ops:Array Oper) (d:Bool):Prop:=∀ g,kn id=some g->QJ P K (.region id ops d) g.run
theorem Md {call:Zz} (hcall:Z7 P call) {K:ZK} (aR:M6 P call K) {kn:Kw} {fuel:Nat}:∀ (n:Nat) (c:Code),Qv (Zbd P K kn) c ->
  QJ P K c (GK P call K kn fuel n (cc P call K kn c))
 | 0,c,_=>fun e s x e' s' h=>by cases h
 | n+1,c,aA=>by
  induction c with
  | skip=>intro e s x e' s' h r w a Q hr he hQ; cases h; exact wp_skip (hQ r a w (Ext.refl hr) he)
  | label l=>intro e s x e' s' h r w a Q hr he hQ; cases h; exact wp_label (hQ r a w (Ext.refl hr) he)
  | exit i=>intro e s x e' s' h r w a Q hr he hQ; cases h; exact wp_exit (hQ r a w (Ext.refl hr) he)
  | goto l=>intro e s x e' s' h r w a Q hr he hQ; cases h; exact wp_goto (hQ r a w (Ext.refl hr) he)
  | ret=>intro e s x e' s' h r w a Q hr he hQ; cases h; exact wp_ret (hQ r a w (Ext.refl hr) he)
  | rangeFunc f p a b=>intro e s x e' s' h; cases h
  | refuse y=>intro e s x e' s' h; cases h
  | region id ops d =>
   have hk:Zbd P K kn id ops d:=aA;have hc:cc P call K kn (.region id ops d)=Zh2 P call K ops d (kn id):=rfl;rw [hc];cases hg:kn id with
   | some g=>exact hk g hg
   | none =>
    cases d
    ·intro e s x e' s' h r w a Q hr he hQ;refine Zcb hcall hr he (h:Er (JO P call K ops ops.toList 0 .nil) e s = .ok x e' s') fun q a' w' hx he' hn => ?_;subst hn;exact hQ q a' w' hx he'
    ·exact aR id ops
  | seq a b iha ihb=>exact Zj7 (iha aA.1) (ihb aA.2)
  | cond x a b iha ihb=>exact Zg2 (iha aA.1) (ihb aA.2)
  | block i b ih=>exact Zfh (ih aA)
  | loop b ih=>exact Zg3 (ih aA) fuel
  | scope b ih =>
   intro e s x e' s' h r w a Q hr he hQ;refine BN (Lq (ex:=GK P call K kn fuel n) (rest:=Et P call K kn b) (fun l => ?_) fuel b _ (ih aA) e s x e' s' h r w a Q hr he hQ);unfold Et;cases hl:findLabel b l with
   | none=>rfl
   | some c=>exact ⟨_,rfl,Md hcall aR n c (Qv.label (c:=b) (show Qv _ b from aA) hl)⟩
end Ev
namespace Ev
open Go
variable [Sig] {P:Program}
theorem Lr {K:ZK} {t:Tmp} {v:Zb}:∀ (l:List Zb) (i:Nat) (e:Env),(Wm K i e l).get t=some v->(K.Zf t=true/\i<=t/\l[t-i]? = some v)\/e.get t=some v
 | [],i,e,h => .inr h
 | x::l,i,e,h=>by
  rcases Lr l (i+1) _ h with ⟨h1,h2,h3⟩ | h1
  ·refine .inl ⟨h1,Nat.le_of_succ_le h2,?_⟩;have:t-i=(t-(i+1))+1:=by rw [Nat.sub_add_eq,Nat.sub_add_cancel (Nat.sub_pos_of_lt h2)]
   rw [this];exact h3
  ·cases hk:K.Zf i
   ·rw [hk] at h1; exact .inr h1
   ·rw [hk] at h1;have h1:(e.set i (some x)).get t=some v:=h1;rw [JN] at h1;by_cases hi:i=t
    ·subst hi;rw [if_pos rfl] at h1;cases h1;exact .inl ⟨hk,Nat.le_refl _,by simp⟩
    ·rw [if_neg hi] at h1;exact .inr h1
theorem M7 {fn:Func} {Zf:T3} {r:Rho} {args:List Zb} {us:List Value} (h:VRs r args us) :
  Qr ⟨fn.ntmps,Zf⟩ r (Wm ⟨fn.ntmps,Zf⟩ 0 .lf args) { tmps:=⟨us⟩++Array.replicate (fn.ntmps-(⟨us⟩:Array Value).size) undef,defers:=[] }:=by
 refine ⟨fun t v hv => ?_,by simp; omega,rfl⟩;rcases Lr args 0 .lf hv with ⟨h1,_,h2⟩ | h1
 ·refine ⟨h1,?_⟩;obtain ⟨u,h3,h4⟩:=h.get h2;have ht:t<us.length:=(List.getElem?_eq_some_iff.1 h3).1
  have:(⟨us⟩++Array.replicate (fn.ntmps-(⟨us⟩:Array Value).size) undef:Array Value)[t]? = some u:=by
   rw [Array.getElem?_append_left (by simpa using ht)];simpa using h3
  rw [Array.getD_eq_getD_getElem?,this];exact h4
 ·rw [Tz] at h1; cases h1
def TI (a:Act):ResultVar->Sem Value
 | .tmp t=>pure (a.tmps.getD t undef)
 | .cell c t=>do loadVar t (← asAddr (a.tmps.getD c undef))
theorem Ez (fn:Func) (a:Act):results fn a.tmps=(do let vs ← fn.results.mapM (TI a); pure (if h:vs.size=1 then vs[0] else .tuple vs)):=by
 have key:∀ f:ResultVar->Sem Value,(∀ x,f x=TI a x)->(do let vs ← fn.results.mapM f; pure (if h:vs.size=1 then vs[0] else .tuple vs):Sem Value) =
   (do let vs ← fn.results.mapM (TI a); pure (if h:vs.size=1 then vs[0] else .tuple vs)):=fun f hf=>by rw [funext hf]
 unfold results;exact key _ fun x=>by cases x <;> rfl
theorem Zcd {K:ZK} {r:Rho} {s:St} {w:World} {e:Env} {a:Act} (hr:Rel r s w) (he:Qr K r e a) {x:ResultVar} {v:Zb} (h:Dh e s (ZgW P x) = .ok v) :
  Z0 P r w (TI a x) v:=by
 cases x with
 | tmp t=>exact ⟨_,rfl,(he.env t v (F6 h)).2⟩
 | cell c t =>
  have h:Zfa s (JS P t) (e.get c) = .ok v:=h;unfold Zfa at h;split at h
  ·rename_i p hp;have hv:=(he.env c p hp).2;obtain ⟨u,h1,h2⟩:=Bt (t:=t) hr.toRelB h hv;refine ⟨u,?_,h2⟩;unfold Gs at h;split at h
   ·generalize hg:a.tmps.getD c undef=g at hv h1
    cases hv;simp only [Instr.loadAt,Instr.sureAddr,Sem.run_bind,Sem.run_pure,Result.andThen_ok] at h1;simp only [TI,hg,asAddr,Sem.run_bind,Sem.run_pure,Result.andThen_ok,h1]
   ·cases h
  ·cases h
theorem GM {K:ZK} {r:Rho} {s:St} {w:World} {e:Env} {a:Act} (hr:Rel r s w) (he:Qr K r e a):∀ (l:List ResultVar) {vs:List Zb},Ve e s (XQ P l)=some vs ->
  ∃ us,(l.mapM (TI a)).run P w = .ok us w/\VRs r vs us
 | [],vs,h=>by cases h; exact ⟨[],rfl,.nil⟩
 | x::l,vs,h=>by
  have h:Zan (Dh e s (ZgW P x)) (Ve e s (XQ P l))=some vs:=h;cases h1:Dh e s (ZgW P x) with
  | bad=>rw [h1] at h; cases h
  | ok v =>
   rw [h1] at h;cases h2:Ve e s (XQ P l) with
   | none=>rw [h2] at h; cases h
   | some vs' =>
    rw [h2] at h;cases h;obtain ⟨u,h3,h4⟩:=Zcd hr he h1;obtain ⟨us,h5,h6⟩:=GM hr he l h2;refine ⟨u::us,?_,.cons h4 h6⟩;rw [List.mapM_cons];simp only [Sem.run_bind,h3,Result.andThen_ok,h5,Sem.run_pure]
theorem Tp {K:ZK} {r:Rho} {s:St} {w:World} {e:Env} {a:Act} (hr:Rel r s w) (he:Qr K r e a) {fn:Func} {v:Zb} (h:ZgX (Ve e s (XQ P fn.results.toList)) = .ok v) :
  ∃ u,(results fn a.tmps).run P w = .ok u w/\VR r v u:=by
 cases h1:Ve e s (XQ P fn.results.toList) with
 | none=>rw [h1] at h; cases h
 | some vs =>
  rw [h1] at h;obtain ⟨us,h2,h3⟩:=GM hr he fn.results.toList h1
  have hm:(fn.results.mapM (TI a)).run P w = .ok ⟨us⟩ w:=by
   rw [Array.mapM_eq_mapM_toList];simp only [Sem.run_map,h2];rfl
  have hres:(results fn a.tmps).run P w = .ok (if h:(⟨us⟩:Array Value).size=1 then (⟨us⟩:Array Value)[0] else .tuple ⟨us⟩) w:=by
   rw [Ez];simp only [Sem.run_bind,hm,Result.andThen_ok,Sem.run_pure]
  refine ⟨_,hres,?_⟩;cases h3 with
  | nil =>
   cases h;exact .tuple .nil
  | cons hv ht =>
   cases ht with
   | nil=>cases h; exact hv
   | cons hv2 ht2 =>
    cases h;exact .tuple (.cons hv (.cons hv2 ht2))
structure Xe (P:Program) (B:YT):Prop where
 fn:∀ f fn,B.fn f=some fn->P.funcs[f]? = some fn/\(fn.name== "runtime.NumGoroutine")=false
 reg:∀ f fn b,B.fn f=some fn->fn.body=some b->Qv (Zbd P ⟨fn.ntmps,B.Zf f⟩ (B.reg f)) b
 orc:∀ f g,B.orc f=some g->∀ (args:List Zb) (s:St) (v:Zb) (s':St),g.run args s = .ok v s'->∀ (r:Rho) (w:World) (us:List Value),Rel r s w->VRs r args us ->
  XZ P f ⟨us⟩ w fun u w'=>∃ q,Ext r s w q s' w'/\VR q v u
theorem M8 {l:List RV} {y:Res} {v:Zb} {s':St} (h:T4 l y = .ok v s'):∃ x e,y = .ok x e s'/\(x = .normal\/x = .ret)/\ZgX (Ve e s' l) = .ok v:=by
 unfold T4 at h;split at h
 ·obtain ⟨h1,rfl⟩:=Z9 h;exact ⟨_,_,rfl,.inl rfl,h1⟩
 ·obtain ⟨h1,rfl⟩:=Z9 h;exact ⟨_,_,rfl,.inr rfl,h1⟩
 ·cases h
theorem Ce {B:YT} (hB:Xe P B) {call:Zz} (hcall:Z7 P call) (aR:∀ K,M6 P call K) (fuel:Nat) :
  Z7 P (fun f args s=>M9 P B call fuel f args s (B.orc f)):=by
 intro f args s v s' h r w us hr hv;have h:M9 P B call fuel f args s (B.orc f) = .ok v s':=h;cases ho:B.orc f with
 | some g =>
  rw [ho] at h;exact hB.orc f g ho args s v s' h r w us hr hv
 | none =>
  rw [ho] at h;have h:Sh P call (B.reg f) fuel args s (ZfL P call (B.Zf f) (B.reg f) (B.fn f)) = .ok v s':=h;cases hf:B.fn f with
  | none=>rw [hf] at h; cases h
  | some fn =>
   rw [hf] at h;cases hb:fn.body with
   | none =>
    have h:Sh P call (B.reg f) fuel args s (fcB P call (B.Zf f) (B.reg f) fn fn.body) = .ok v s':=h;rw [hb] at h;cases h
   | some b =>
    have h:Sh P call (B.reg f) fuel args s (fcB P call (B.Zf f) (B.reg f) fn fn.body) = .ok v s':=h;rw [hb] at h;have h:T4 (XQ P fn.results.toList) (GK P call ⟨fn.ntmps,B.Zf f⟩ (B.reg f) fuel fuel (cc P call ⟨fn.ntmps,B.Zf f⟩ (B.reg f) b) (Wm ⟨fn.ntmps,B.Zf f⟩ 0 .lf args) s) = .ok v s':=h;obtain ⟨x,e,h1,h2,h3⟩:=M8 h;obtain ⟨hfn,hname⟩:=hB.fn f fn hf;refine .inr ⟨?_,?_⟩
    ·have hname':fn.name≠ "runtime.NumGoroutine":=by simpa using hname
     simp [callFunc,hfn,hname',hb]
    ·refine calls_of_wp hfn hb (Md hcall (aR _) fuel b (hB.reg f fn b hf hb) _ s x e s' h1 r w _ _ hr (M7 hv) fun q a' w' hx he => ?_);obtain ⟨u,h4,h5⟩:=Tp hx.rel he h3;rcases h2 with rfl | rfl
     ·exact ⟨he.defers,u,h4,u,rfl,q,hx,h5⟩
     ·exact ⟨he.defers,u,h4,u,rfl,q,hx,h5⟩
end Ev
namespace Ev
open Go
variable [Sig] {P:Program}
noncomputable def JC (K:ZK):List Oper->List Zb->Env->Env
 | o::rest,v::vs,e=>JC K rest vs (Wk e v (Xb K o))
 | _,_,e=>e
noncomputable def KO:List DI->List St->List St
 | d::ds,s::ss=>sel d.eff (s::KO ds ss) (KO ds ss)
 | _,_=>[]
def Zh4 (P:Program) (call:Zz) (K:ZK) (ops:Array Oper) (e0:Env) (j:Nat) (o:Oper) (al:Al) (l:List Zb) (s1:St) (v:Zb) (s2:St):Prop :=
 QB K o=true/\s1.next<=s2.next/\Ma s2.next v=true/\((wanted l e0 (guardOf (Jz j al) ops o) = .yes/\(comp (Jz j al) P call o.op).run l e0 s1 = .ok v s2)\/(wanted l e0 (guardOf (Jz j al) ops o) = .no/\v=QH/\s2=s1))
theorem Zfi {go:List Zb->Env->St->List St->S6} {l l':List Zb} {e0 e e':Env} {s s':St} {ss ss':List St} {run:Cl} {d:Option (List Bool)} {g:Option (Qj×Bool)} {eff:Bool}
  (h:ZaP go l e0 e s ss (.mk run d g) eff = .ok l' e' s' ss') :
  ∃ v s1,s.next<=s1.next/\Ma s1.next v=true/\((wanted l e0 g = .yes/\run.run l e0 s = .ok v s1)\/(wanted l e0 g = .no/\v=QH/\s1=s))/\go (v::l) (Wk e v d) s1 (sel eff (s::ss) ss) = .ok l' e' s' ss':=by
 have h:@Wt.rec (fun _=>S6) (@R.rec (fun _=>S6) (fun v s'=>sel (Bool.and (Nat.ble s.next s'.next) (Ma s'.next v)) (go (v::l) (Wk e v d) s' (sel eff (s::ss) ss)) .bad) .bad (run.run l e0 s))
  (go (QH::l) (Wk e QH d) s (sel eff (s::ss) ss)) .bad (wanted l e0 g) = .ok l' e' s' ss':=h
 cases hw:wanted l e0 g with
 | yes =>
  rw [hw] at h;cases hr:run.run l e0 s with
  | bad=>rw [hr] at h; cases h
  | ok v s1 =>
   rw [hr] at h;have h:sel (Bool.and (Nat.ble s.next s1.next) (Ma s1.next v)) (go (v::l) (Wk e v d) s1 (sel eff (s::ss) ss)) .bad = .ok l' e' s' ss':=h;cases hb:Bool.and (Nat.ble s.next s1.next) (Ma s1.next v)
   ·rw [hb] at h; cases h
   ·rw [hb] at h;rw [Bool.and_eq_true] at hb;exact ⟨v,s1,Ql hb.1,hb.2,.inl ⟨rfl,rfl⟩,h⟩
 | no=>rw [hw] at h; exact ⟨QH,s,Nat.le_refl _,rfl,.inr ⟨rfl,rfl,rfl⟩,h⟩
 | bad=>rw [hw] at h; cases h
theorem trace {call:Zz} {K:ZK} {ops:Array Oper} {ah:List DI} {e0:Env}:∀ (rest:List Oper) (ds:List DI) (n:Nat) (al:Al) (l L:List Zb) (e E:Env) (s S:St) (ss SS:List St),ds.length=rest.length ->
  Hb e0 (Qq P call K ops ah rest ds n al) l e s ss = .ok L E S SS ->
  ∃ (vs:List Zb) (aL:List St),vs.length=rest.length/\aL.length=rest.length/\L=vs.reverse++l/\E=JC K rest vs e/\SS=(KO ds aL).reverse++ss/\(aL++[S])[0]? = some s /\
   ∀ k o,rest[k]? = some o->∃ v s1 s2,vs[k]? = some v/\aL[k]? = some s1/\(aL++[S])[k+1]? = some s2/\Zh4 P call K ops e0 (n+k) o (Xu rest n al k) ((vs.take k).reverse++l) s1 v s2
 | [],ds,n,al,l,L,e,E,s,S,ss,SS,hd,h=>by
  cases h;refine ⟨[],[],rfl,rfl,rfl,rfl,?_,rfl,fun k o hk=>by simp at hk⟩;cases ds with
  | nil=>rfl
  | cons d ds=>cases hd
 | o::rest,[],n,al,l,L,e,E,s,S,ss,SS,hd,h=>by cases hd
 | o::rest,d::ds,n,al,l,L,e,E,s,S,ss,SS,hd,h=>by
  cases hdi:QB K o
  ·have h:ZaP (Hb e0 (Qq P call K ops ah rest ds (n+1) (Qk n al o))) l e0 e s ss (Te P call K ops n al o) d.eff = .ok L E S SS:=h;unfold Te at h;rw [hdi] at h;cases h
  ·have h:ZaP (Hb e0 (Qq P call K ops ah rest ds (n+1) (Qk n al o))) l e0 e s ss (Te P call K ops n al o) d.eff = .ok L E S SS:=h;unfold Te at h;rw [hdi] at h;obtain ⟨v,s1,h1,hlow,h2,h3⟩:=Zfi h;obtain ⟨vs,aL,h4,h5,h6,h7,h8,h9,h10⟩:=trace rest ds (n+1) (Qk n al o) (v::l) L _ E s1 S _ SS (by simpa using hd) h3;refine ⟨v::vs,s::aL,by rw [List.length_cons,List.length_cons,h4],by rw [List.length_cons,List.length_cons,h5],by rw [h6]; simp,h7,?_,rfl,fun k o' hk => ?_⟩
   ·rw [h8];show _=(sel d.eff (s::KO ds aL) (KO ds aL)).reverse++ss;cases d.eff
    ·rfl
    ·show (KO ds aL).reverse++(s::ss)=(s::KO ds aL).reverse++ss;simp
   ·cases k with
    | zero =>
     cases hk;exact ⟨v,s,s1,rfl,rfl,h9,hdi,h1,hlow,h2⟩
    | succ k =>
     obtain ⟨v',t1,t2,g1,g2,g3,g4⟩:=h10 k o' hk;refine ⟨v',t1,t2,g1,g2,g3,?_⟩;have e1:n+1+k=n+(k+1):=by omega
     have e2:(vs.take k).reverse++(v::l)=((v::vs).take (k+1)).reverse++l:=by simp
     rw [e1,e2] at g4;exact g4
end Ev
namespace Ev
open Go
variable [Sig] {P:Program}
theorem PS:∀ (rest:List Oper) (n:Nat) (al:Al) (k:Nat) {o:Oper},rest[k]? = some o->Xu rest n al (k+1)=Qk (n+k) (Xu rest n al k) o
 | [],n,al,k,o,h=>by simp at h
 | x::rest,n,al,0,o,h=>by
  cases h;cases rest <;> rfl
 | x::rest,n,al,k+1,o,h=>by
  have:=PS rest (n+1) (Qk n al x) k h;rw [show n+1+k=n+(k+1) by omega] at this;exact this
def ZZ (ops:List Oper) (j:Nat):Option Tmp:=(ops[j]?).bind (·.dst)
theorem TJ (ops:List Oper) (n:Nat) (t:Tmp):∀ (j:Nat),j<=ops.length ->
  (∃ i,i<j/\ZZ ops i=some t/\(∀ k,i<k->k<j->ZZ ops k≠some t)/\Z3 n (Xu ops 0 .nil j) t = .loc (n-1-i)) \/
  ((∀ k,k<j->ZZ ops k≠some t)/\Z3 n (Xu ops 0 .nil j) t = .tmp (bits t))
 | 0,_ => .inr ⟨fun k h=>by omega,by cases ops <;> rfl⟩
 | j+1,h=>by
  have hj:ops[j]? = some ops[j]:=List.getElem?_eq_getElem (by omega);have hs:=PS ops 0 .nil j hj;rw [Nat.zero_add] at hs;have hd:ZZ ops j=ops[j].dst:=by unfold ZZ; rw [hj]; rfl
  rw [hs];unfold Qk;cases ho:ops[j].dst with
  | none =>
   rcases TJ ops n t j (by omega) with ⟨i,h1,h2,h3,h4⟩ | ⟨h1,h2⟩
   ·refine .inl ⟨i,by omega,h2,fun k hk hkj => ?_,h4⟩;by_cases e:k=j
    ·subst e; rw [hd,ho]; exact fun h=>by cases h
    ·exact h3 k hk (by omega)
   ·refine .inr ⟨fun k hk => ?_,h2⟩;by_cases e:k=j
    ·subst e; rw [hd,ho]; exact fun h=>by cases h
    ·exact h1 k (by omega)
  | some d =>
   by_cases htd:t=d
   ·subst htd;refine .inl ⟨j,by omega,by rw [hd,ho],fun k hk hkj=>by omega,?_⟩;simp only [Z3,mX];rfl
   ·have hne:ZZ ops j≠some t:=by rw [hd,ho]; exact fun h=>htd (by cases h; rfl)
    rcases TJ ops n t j (by omega) with ⟨i,h1,h2,h3,h4⟩ | ⟨h1,h2⟩
    ·refine .inl ⟨i,by omega,h2,fun k hk hkj => ?_,?_⟩
     ·by_cases e:k=j
      ·subst e; exact hne
      ·exact h3 k hk (by omega)
     ·simp only [Z3,Zff htd];exact h4
    ·refine .inr ⟨fun k hk => ?_,?_⟩
     ·by_cases e:k=j
      ·subst e; exact hne
      ·exact h1 k (by omega)
     ·simp only [Z3,Zff htd];exact h2
theorem Ls {ops:List Oper} {vs:List Zb} {e0:Env} {j:Nat} (hj:j<=ops.length) (hv:vs.length=ops.length) {t:Tmp} {v:Zb} (h:Zl (vs.take j).reverse e0 (Z3 j (Xu ops 0 .nil j) t) = .ok v) :
  (∃ i,i<j/\ZZ ops i=some t/\(∀ k,i<k->k<j->ZZ ops k≠some t)/\vs[i]? = some v)\/((∀ k,k<j->ZZ ops k≠some t)/\e0.get t=some v):=by
 rcases TJ ops j t j hj with ⟨i,h1,h2,h3,h4⟩ | ⟨h1,h2⟩
 ·rw [h4] at h;have h:=Rn _ (h:KC (j-1-i) (vs.take j).reverse = .ok v);refine .inl ⟨i,h1,h2,h3,?_⟩;rw [List.getElem?_reverse (by rw [List.length_take]; omega),List.length_take,List.getElem?_take] at h;have e1:min j vs.length-1-(j-1-i)=i:=by omega
  rw [e1,if_pos h1] at h;exact h
 ·rw [h2] at h;exact .inr ⟨h1,F6 h⟩
def XU (bJ:List Nat) (j i:Nat):Prop:=∃ b,bJ[j]? = some b/\Nat.testBit b i=true
theorem IM:∀ (l:List Nat) (n:Nat),Zb7 l n=(l[n]?).getD 0
 | [],n=>by cases n <;> rfl
 | a::l,0=>rfl
 | a::l,n+1=>by
  show Zb7 l n=_;rw [IM l n];simp
theorem Lt (acc:List Nat) (i:Nat):∀ (es:List Edge),Nat.testBit (RT acc es) i=true->∃ e∈es,Region.binds .any e=true/\(e.on=i\/XU acc e.on i)
 | [],h=>by simp [RT] at h
 | e::es,h=>by
  simp only [RT] at h;cases hb:Region.binds .any e
  ·rw [hb] at h;obtain ⟨e',h1,h2⟩:=Lt acc i es h;exact ⟨e',List.mem_cons_of_mem _ h1,h2⟩
  ·rw [hb] at h;have h:Nat.testBit (Nat.lor (Nat.lor (Nat.pow 2 e.on) (Zb7 acc e.on)) (RT acc es)) i=true:=h;have h:(2^e.on|||Zb7 acc e.on|||RT acc es).testBit i=true:=h;rw [Nat.testBit_or,Nat.testBit_or,Bool.or_eq_true,Bool.or_eq_true] at h;rcases h with (h | h) | h
   ·rw [Nat.testBit_two_pow] at h;exact ⟨e,List.mem_cons_self ..,hb,.inl (by simpa using h)⟩
   ·refine ⟨e,List.mem_cons_self ..,hb,.inr ?_⟩;rw [IM] at h;cases ha:acc[e.on]? with
    | none=>rw [ha] at h; simp at h
    | some b=>rw [ha] at h; exact ⟨b,ha,h⟩
   ·obtain ⟨e',h1,h2⟩:=Lt acc i es h;exact ⟨e',List.mem_cons_of_mem _ h1,h2⟩
theorem YO:∀ (l:List Oper) (acc:List Nat),∃ t,Zw l acc=acc++t/\t.length=l.length
 | [],acc=>⟨[],by simp [Zw],rfl⟩
 | o::l,acc=>by
  obtain ⟨t,h1,h2⟩:=YO l (acc++[RT acc o.after.toList]);exact ⟨RT acc o.after.toList::t,by simp only [Zw]; rw [h1]; simp,by simp [h2]⟩
theorem BO:∀ (l:List Oper) (acc:List Nat) (k:Nat) {o:Oper},l[k]? = some o->(Zw l acc)[acc.length+k]? = some (RT ((Zw l acc).take (acc.length+k)) o.after.toList)
 | [],acc,k,o,h=>by simp at h
 | x::l,acc,0,o,h=>by
  cases h;obtain ⟨t,h1,h2⟩:=YO l (acc++[RT acc x.after.toList]);simp only [Zw];rw [h1];have e1:(acc++[RT acc x.after.toList]++t).take (acc.length+0)=acc:=by simp
  rw [e1,Nat.add_zero];simp
 | x::l,acc,k+1,o,h=>by
  have:=BO l (acc++[RT acc x.after.toList]) k (o:=o) h;rw [List.length_append,List.length_singleton,show acc.length+1+k=acc.length+(k+1) by omega] at this;exact this
theorem Zce {bJ:List Nat} {j e i:Nat} (h:XU (bJ.take j) e i):XU bJ e i:=by
 obtain ⟨b,h1,h2⟩:=h;rw [List.getElem?_take] at h1;split at h1
 ·exact ⟨b,h1,h2⟩
 ·cases h1
def Dl (bJ:List Nat) (D:Nat->Prop):Prop:=∀ j,D j->∀ i,XU bJ j i->D i
theorem RY {ops:List Oper} {D:Nat->Prop} (hD:Dl (Zw ops []) D) {j:Nat} {o:Oper} (ho:ops[j]? = some o) (hr:∀ e∈o.after.toList,Region.binds .any e=true->D e.on) :
  ∀ i,XU (Zw ops []) j i->D i:=by
 intro i hi;obtain ⟨b,h1,h2⟩:=hi;have h3:=BO ops [] j ho;rw [List.length_nil,Nat.zero_add,h1] at h3;cases h3;obtain ⟨e,h4,h5,h6⟩:=Lt _ i _ h2;rcases h6 with rfl | h6
 ·exact hr e h4 h5
 ·exact hD _ (hr e h4 h5) i (Zce h6)
theorem Lu {P:Program} {ops:Array Oper}:∀ (l:List Oper) (bJ:List Nat) (j:Nat) {o:Oper} {b:Nat},l[j]? = some o->bJ[j]? = some b->(Q7 P ops l bJ)[j]? = some (Lg P ops o b)
 | [],_,_,_,_,h,_=>by simp at h
 | x::l,[],j,_,_,_,h=>by simp at h
 | x::l,b::bJ,0,_,_,h,k=>by cases h; cases k; rfl
 | x::l,b::bJ,j+1,_,_,h,k=>Lu l bJ j h k
theorem Vf {P:Program} {ops:Array Oper}:∀ (l:List Oper) (bJ:List Nat),bJ.length=l.length->(Q7 P ops l bJ).length=l.length
 | [],_,_=>rfl
 | x::l,[],h=>by cases h
 | x::l,b::bJ,h=>by
  show (Lg P ops x b::Q7 P ops l bJ).length=_;rw [List.length_cons,Vf l bJ (by simpa using h),List.length_cons]
theorem BQ {y:DI}:∀ (pre:List DI) (i:Nat),Lh y pre i=true->∀ (k:Nat) (x:DI),pre[k]? = some x->Xx x y=true->Nat.testBit y.bf (i+k)=true
 | [],_,_,k,x,h,_=>by simp at h
 | z::pre,i,h,k,x,hk,hc=>by
  simp only [Lh] at h;cases k with
  | zero =>
   cases hk;rw [hc] at h;have h:sel (Nat.testBit y.bf i) (Lh y pre (i+1)) false=true:=h;rcases Ze h with ⟨h1,_⟩ | ⟨_,h1⟩
   ·rw [Nat.add_zero]; exact h1
   ·cases h1
  | succ k =>
   have h1:Lh y pre (i+1)=true:=by
    rcases Ze h with ⟨_,h1⟩ | ⟨_,h1⟩
    ·rcases Ze h1 with ⟨_,h2⟩ | ⟨_,h2⟩
     ·exact h2
     ·cases h2
    ·exact h1
   have:=BQ pre (i+1) h1 k x hk hc;rw [show i+1+k=i+(k+1) by omega] at this;exact this
theorem KP:∀ (l pre:List DI),YL pre l=true->∀ (j:Nat) (y:DI),l[j]? = some y->∀ (i:Nat) (x:DI),(pre++l)[i]? = some x->i<pre.length+j->Xx x y=true->Nat.testBit y.bf i=true
 | [],_,_,j,y,h,_,_,_,_,_=>by simp at h
 | z::l,pre,h,j,y,hj,i,x,hi,hlt,hc=>by
  simp only [YL] at h;rcases Ze h with ⟨h1,h2⟩ | ⟨_,h2⟩
  ·cases j with
   | zero =>
    cases hj;rw [List.getElem?_append_left (by omega)] at hi;have:=BQ pre 0 h1 i x hi hc;rw [Nat.zero_add] at this;exact this
   | succ j =>
    refine KP l (pre++[z]) h2 j y hj i x (by rw [List.append_assoc]; exact hi) ?_ hc;rw [List.length_append,List.length_singleton];omega
  ·cases h2
end Ev
namespace Ev
open Go
variable [Sig] {P:Program}
def cnt:List DI->Nat->Nat
 | [],_=>0
 | _::_,0=>0
 | x::l,p+1=>(if x.eff=true then 1 else 0)+cnt l p
theorem lo_le (bf:Nat):∀ (l:List DI) (i p:Nat),(∀ k x,l[k]? = some x->x.eff=true->Nat.testBit bf (i+k)=true->k<p)->Li bf l i<=cnt l p
 | [],i,p,h=>Nat.le_refl _
 | x::l,i,p,h=>by
  simp only [Li];cases hc:Bool.and x.eff (Nat.testBit bf i)
  ·show Li bf l (i+1)<=_;cases p with
   | zero =>
    refine Nat.le_trans (lo_le bf l (i+1) 0 fun k y hk he hb => ?_) (by cases l <;> exact Nat.le_refl _);have:=h (k+1) y hk he (by rw [show i+(k+1)=i+1+k by omega]; exact hb);omega
   | succ p =>
    have:=lo_le bf l (i+1) p fun k y hk he hb=>by
     have:=h (k+1) y hk he (by rw [show i+(k+1)=i+1+k by omega]; exact hb);omega
    simp only [cnt];omega
  ·show Li bf l (i+1)+1<=_;rw [Bool.and_eq_true] at hc;have h0:=h 0 x rfl hc.1 (by rw [Nat.add_zero]; exact hc.2);cases p with
   | zero=>omega
   | succ p =>
    have:=lo_le bf l (i+1) p fun k y hk he hb=>by
     have:=h (k+1) y hk he (by rw [show i+(k+1)=i+1+k by omega]; exact hb);omega
    simp only [cnt,hc.1,if_true];omega
theorem Zh5 (j:Nat):∀ (l:List DI) (p:Nat),(∀ k x,l[k]? = some x->k<p->x.eff=true->Nat.testBit x.bf j=false)->cnt l p<=Lj j l
 | [],p,h=>Nat.le_refl _
 | x::l,0,h=>Nat.zero_le _
 | x::l,p+1,h=>by
  have ih:=Zh5 j l p fun k y hk hp he=>h (k+1) y hk (by omega) he;simp only [cnt,Lj];cases he:x.eff
  ·show (if false=true then 1 else 0)+cnt l p<=Lj j l;simpa using ih
  ·have:=h 0 x rfl (by omega) he;rw [this];show (if true=true then 1 else 0)+cnt l p<=Lj j l+1;simp;omega
theorem BS (S:St):∀ (ds:List DI) (aL:List St) (p:Nat),ds.length=aL.length->(p=ds.length\/∃ x,ds[p]? = some x/\x.eff=true)->(KO ds aL++[S])[cnt ds p]? = (aL++[S])[p]?
 | [],[],p,_,h=>by
  rcases h with rfl | ⟨x,h,_⟩
  ·rfl
  ·simp at h
 | [],_::_,_,h,_=>by cases h
 | _::_,[],_,h,_=>by cases h
 | d::ds,s::aL,0,h,hp=>by
  rcases hp with h0 | ⟨x,h0,h1⟩
  ·cases h0
  ·cases h0;show (sel d.eff (s::KO ds aL) (KO ds aL)++[S])[0]? = _;rw [h1];rfl
 | d::ds,s::aL,p+1,h,hp=>by
  have ih:=BS S ds aL p (by simpa using h) (by
   rcases hp with h0 | ⟨x,h0,h1⟩
   ·exact .inl (by simpa using h0)
   ·exact .inr ⟨x,h0,h1⟩)
  show (sel d.eff (s::KO ds aL) (KO ds aL)++[S])[(if d.eff=true then 1 else 0)+cnt ds p]? = _;cases d.eff
  ·show (KO ds aL++[S])[(if false=true then 1 else 0)+cnt ds p]? = (aL++[S])[p]?;simpa using ih
  ·show (s::(KO ds aL++[S]))[(if true=true then 1 else 0)+cnt ds p]? = (aL++[S])[p]?;rw [if_pos rfl,Nat.add_comm,List.getElem?_cons_succ];exact ih
mutual
theorem QP:∀ (a b:Zb),XO a b=true->a=b
 | .bool a,b,h=>by
  cases b <;> first | (cases h; done) | (have h:Nx _ _=true:=h; rw [Ro] at h; rw [eq_of_beq h])
 | .gho i t,b,h=>by
  cases b with
  | gho j u =>
   have h:Bool.and (Nat.beq i j) (Nat.beq t u)=true:=h;rw [Bool.and_eq_true] at h;rw [Nat.eq_of_beq_eq_true h.1,Nat.eq_of_beq_eq_true h.2]
  | _=>cases h
 | .int j a,b,h=>by
  cases b <;> first
   | (cases h; done)
   | (have h:Bool.and (keq _ _) (ieq _ _)=true:=h; rw [Bool.and_eq_true,QS] at h; rw [JE h.1,eq_of_beq h.2])
 | .flt j a,b,h=>by
  cases b <;> first
   | (cases h; done)
   | (have h:Bool.and (Fp _ _) (Nat.beq _ _)=true:=h; rw [Bool.and_eq_true] at h; rw [Rp h.1,ZF h.2])
 | .Z4 j a c,b,h=>by
  cases b <;> first
   | (cases h; done)
   | (have h:Bool.and (Fp _ _) (Bool.and (Nat.beq _ _) (Nat.beq _ _))=true:=h; rw [Bool.and_eq_true,Bool.and_eq_true] at h; rw [Rp h.1,ZF h.2.1,ZF h.2.2])
 | .str a,b,h=>by
  cases b <;> first
   | (cases h; done)
   | (have h:QG _ _=true:=h; rw [Qp] at h; rw [eq_of_beq h])
 | .Zo,b,h=>by cases b <;> first | rfl | cases h
 | .ptr i a,b,h=>by
  cases b <;> first
   | (cases h; done)
   | (have h:Bool.and (Nat.beq _ _) (Nat.beq _ _)=true:=h; rw [Bool.and_eq_true] at h; rw [ZF h.1,ZF h.2])
 | .Za,b,h=>by cases b <;> first | rfl | cases h
 | .Z8,b,h=>by cases b <;> first | rfl | cases h
 | .slice i a n c,b,h=>by
  cases b with
  | slice j b m d =>
   cases c <;> cases d
   ·have h:Bool.and (Nat.beq _ _) (Bool.and (Nat.beq _ _) (Nat.beq _ _))=true:=h;rw [Bool.and_eq_true,Bool.and_eq_true] at h;rw [ZF h.1,ZF h.2.1,ZF h.2.2]
   ·cases h
   ·cases h
   ·have h:Bool.and (Nat.beq _ _) (Bool.and (Nat.beq _ _) (Bool.and (Nat.beq _ _) (Nat.beq _ _)))=true:=h;rw [Bool.and_eq_true,Bool.and_eq_true,Bool.and_eq_true] at h;rw [ZF h.1,ZF h.2.1,ZF h.2.2.1,ZF h.2.2.2]
  | _=>cases c <;> cases h
 | .Zk,b,h=>by cases b <;> first | rfl | cases h
 | .map i,b,h=>by
  cases b <;> first
   | (cases h; done)
   | (have h:Nat.beq _ _=true:=h; rw [ZF h])
 | .func f a c,b,h=>by
  cases b with
  | func g a' c' =>
   have h:Bool.and (Nat.beq f g) (Bool.and (JP a a') (JP c c'))=true:=h;rw [Bool.and_eq_true,Bool.and_eq_true] at h;rw [ZF h.1,JZ a a' h.2.1,JZ c c' h.2.2]
  | _=>cases h
 | .ZQ,b,h=>by cases b <;> first | rfl | cases h
 | .nilIface,b,h=>by cases b <;> first | rfl | cases h
 | .iface t a,b,h=>by
  cases b with
  | iface u b =>
   have h:Bool.and (Nat.beq t u) (XO a b)=true:=h;rw [Bool.and_eq_true] at h;rw [ZF h.1,QP a b h.2]
  | _=>cases h
 | .agg a,b,h=>by
  cases b with
  | agg b=>rw [JZ a b h]
  | _=>cases h
 | .tuple a,b,h=>by
  cases b with
  | tuple b=>rw [JZ a b h]
  | _=>cases h
 | .sint j c a b,x,h=>by
  cases x with
  | sint k d e f =>
   have h:Bool.and (keq _ _) (Bool.and (ieq _ _) (Bool.and (ieq _ _) (ieq _ _)))=true:=h;rw [Bool.and_eq_true,Bool.and_eq_true,Bool.and_eq_true,QS,QS,QS] at h;rw [JE h.1,eq_of_beq h.2.1,eq_of_beq h.2.2.1,eq_of_beq h.2.2.2]
  | _=>cases h
 | .raw a,b,h=>by
  cases b <;> first | (cases h; done) | (have h:Nx _ _=true:=h; rw [Ro] at h; rw [eq_of_beq h])
theorem JZ:∀ (a b:List Zb),JP a b=true->a=b
 | [],[],_=>rfl
 | [],_::_,h=>by simp [JP] at h
 | _::_,[],h=>by simp [JP] at h
 | x::xs,y::ys,h=>by
  simp only [JP,Bool.and_eq_true] at h;rw [QP x y h.1,JZ xs ys h.2]
end
end Ev
namespace Ev
open Go
variable [Sig] {P:Program} {X:Nat->Nat->Prop}
def Dm (ops:Array Oper) (o:Oper):List Tmp:=Lf o.op.operands.toList++RR ops o
def Jv (P:Program) (ops:Array Oper) (j:Nat):Prop:=∃ o,ops.toList[j]? = some o/\(WL P o.op).isE=true
structure Jc (X:Nat->Nat->Prop) (P:Program) (call:Zz) (K:ZK) (ops:Array Oper) (e0:Env) (vs:List Zb) (st:Nat->St):Prop where
 len:vs.length=ops.toList.length
 step:∀ j o,ops.toList[j]? = some o->∃ v,vs[j]? = some v/\Zh4 P call K ops e0 j o (Xu ops.toList 0 .nil j) (vs.take j).reverse (st j) v (st (j+1))
 back:∀ j o,ops.toList[j]? = some o->∀ e∈o.after.toList,Region.binds .any e=true->e.on<j
 reads:∀ i j o t,ops.toList[j]? = some o->t∈Dm ops o->ZZ ops.toList i=some t->(i<j->XU (Zw ops.toList []) j i)/\(j<i->XU (Zw ops.toList []) i j)
 writes:∀ i j t,i<j->ZZ ops.toList i=some t->ZZ ops.toList j=some t->XU (Zw ops.toList []) j i
 Yg:∀ i j,i<j->¬ X i j->Jv P ops i->Jv P ops j->XU (Zw ops.toList []) j i
 look:∀ j o v,ops.toList[j]? = some o->WL P o.op = .look->vs[j]? = some v->wanted (vs.take j).reverse e0 (guardOf (Jz j (Xu ops.toList 0 .nil j)) ops o) = .yes ->
  ∀ p,(p=ops.toList.length\/Jv P ops p)->(∀ i,Jv P ops i->XU (Zw ops.toList []) j i->i<p)->(∀ i,Jv P ops i->i<p->¬ XU (Zw ops.toList []) i j) ->
   ∃ s',(comp (Jz j (Xu ops.toList 0 .nil j)) P call o.op).run (vs.take j).reverse e0 (st p) = .ok v s'
theorem WA {n:Nat}:∀ {l:List Nat},WT n l=true↔n∈l
 | []=>by simp [WT]
 | m::l=>by
  rw [TW];simp
theorem ZaV {o:Option Tmp} {l:List Tmp}:inO o l=true↔∃ t,o=some t/\t∈l:=by
 cases o with
 | none=>simp [inO]
 | some t=>simp [inO,WA]
theorem Dp {x y:DI} {t:Tmp} (h:x.dst=some t) (hm:t∈y.names):Xx x y=true:=by
 unfold Xx;rw [show inO x.dst y.names=true from ZaV.2 ⟨t,h,hm⟩];rfl
theorem Dq {x y:DI} {t:Tmp} (h:y.dst=some t) (hm:t∈x.names):Xx x y=true:=by
 unfold Xx;rw [show inO y.dst x.names=true from ZaV.2 ⟨t,h,hm⟩];cases inO x.dst y.names <;> rfl
theorem Dr {x y:DI} {t:Tmp} (h:x.dst=some t) (k:y.dst=some t):Xx x y=true:=by
 unfold Xx;have:Ze3 x.dst y.dst=true:=by rw [h,k]; exact mX
 rw [this];cases inO x.dst y.names <;> cases inO y.dst x.names <;> rfl
theorem Lv {x y:DI} (h:x.eff=true) (k:y.eff=true):Xx x y=true:=by
 unfold Xx;rw [h,k];cases inO x.dst y.names <;> cases inO y.dst x.names <;> cases Ze3 x.dst y.dst <;> rfl
theorem TK {i:Nat}:∀ {es:List Edge},RU i es=true->∀ e∈es,Region.binds .any e=true->e.on<i
 | [],_,_,h,_=>by cases h
 | e::es,h,e',he,hb=>by
  simp only [RU] at h;rcases Ze h with ⟨h1,h2⟩ | ⟨h1,h2⟩
  ·rcases Ze h2 with ⟨h3,h4⟩ | ⟨_,h4⟩
   ·rcases List.mem_cons.1 he with rfl | he
    ·exact QI h3
    ·exact TK h4 e' he hb
   ·cases h4
  ·rcases List.mem_cons.1 he with rfl | he
   ·rw [h1] at hb; cases hb
   ·exact TK h2 e' he hb
theorem GN:∀ (l:List Oper) (i:Nat),TH l i=true->∀ k o,l[k]? = some o->∀ e∈o.after.toList,Region.binds .any e=true->e.on<i+k
 | [],_,_,k,o,h,_,_,_=>by simp at h
 | x::l,i,h,k,o,hk,e,he,hb=>by
  simp only [TH] at h;rcases Ze h with ⟨h1,h2⟩ | ⟨_,h2⟩
  ·cases k with
   | zero=>cases hk; rw [Nat.add_zero]; exact TK h1 e he hb
   | succ k =>
    have:=GN l (i+1) h2 k o hk e he hb;omega
  ·cases h2
theorem Lw {f:St->R} {v:Zb} {lo hi:Nat}:∀ (ss:List St) (m:Nat),looksAt f v lo hi ss m=true->∀ k s,ss[k]? = some s->lo<=m+k->m+k<=hi->∃ s',f s = .ok v s'
 | [],_,_,k,s,h,_,_=>by simp at h
 | t::ss,m,h,k,s,hk,h1,h2=>by
  simp only [looksAt] at h;cases k with
  | zero =>
   cases hk
   have hc:Bool.and (Nat.ble lo m) (Nat.ble m hi)=true:=by
    rw [Bool.and_eq_true];exact ⟨Nat.ble_eq_true_of_le h1,Nat.ble_eq_true_of_le h2⟩
   rw [hc] at h;have h:sel (xZ v (f t)) (looksAt f v lo hi ss (m+1)) false=true:=h;rcases Ze h with ⟨h3,_⟩ | ⟨_,h3⟩
   ·unfold xZ at h3;split at h3
    ·rename_i u s' hf;rw [<- QP _ _ h3];exact ⟨s',hf⟩
    ·cases h3
   ·cases h3
  | succ k =>
   have hn:looksAt f v lo hi ss (m+1)=true:=by
    rcases Ze h with ⟨_,h3⟩ | ⟨_,h3⟩
    ·rcases Ze h3 with ⟨_,h4⟩ | ⟨_,h4⟩
     ·exact h4
     ·cases h4
    ·exact h3
   exact Lw ss (m+1) hn k s hk (by omega) (by omega)
theorem BU {call:Zz} {K:ZK} {ops:Array Oper} {ah:List DI} {e0:Env} {SS:List St}:∀ (rest:List Oper) (ds:List DI) (n:Nat) (al:Al) (vs l:List Zb),ds.length=rest.length ->
  looks e0 SS (Qq P call K ops ah rest ds n al) vs l=true ->
  ∀ k o v d,rest[k]? = some o->vs[k]? = some v->ds[k]? = some d->d.look=true->QB K o=true ->
   wanted ((vs.take k).reverse++l) e0 (guardOf (Jz (n+k) (Xu rest n al k)) ops o) = .yes ->
   looksAt ((comp (Jz (n+k) (Xu rest n al k)) P call o.op).run ((vs.take k).reverse++l) e0) v (Li d.bf ah 0) (Lj (n+k) ah) SS 0=true
 | [],_,_,_,_,_,_,_,k,o,_,_,h,_,_,_,_,_=>by simp at h
 | x::rest,[],n,al,vs,l,h,_,_,_,_,_,_,_,_,_,_,_=>by cases h
 | x::rest,d::ds,n,al,[],l,hl,h,k,o,v,d',hk,hv,_,_,_,_=>by simp at hv
 | x::rest,d::ds,n,al,u::vs,l,hl,h,k,o,v,d',hk,hv,hd,hlk,hdi,hw=>by
  have h:sel d.look (sel (Ze5 l e0 u (Li d.bf ah 0) (Lj n ah) SS (Te P call K ops n al x)) (looks e0 SS (Qq P call K ops ah rest ds (n+1) (Qk n al x)) vs (u::l)) false)
   (looks e0 SS (Qq P call K ops ah rest ds (n+1) (Qk n al x)) vs (u::l))=true:=h
  cases k with
  | zero =>
   cases hk;cases hv;cases hd;rw [hlk] at h;have h:sel (Ze5 l e0 u (Li d.bf ah 0) (Lj n ah) SS (Te P call K ops n al x)) (looks e0 SS (Qq P call K ops ah rest ds (n+1) (Qk n al x)) vs (u::l)) false=true:=h;rcases Ze h with ⟨h1,_⟩ | ⟨_,h1⟩
   ·unfold Te at h1;rw [hdi] at h1;have h1:@Wt.rec (fun _=>Bool) (looksAt ((comp (Jz n al) P call x.op).run l e0) u (Li d.bf ah 0) (Lj n ah) SS 0) true false (wanted l e0 (guardOf (Jz n al) ops x))=true:=h1;have hw:wanted l e0 (guardOf (Jz n al) ops x) = .yes:=hw;rw [hw] at h1;exact h1
   ·cases h1
  | succ k =>
   have hn:looks e0 SS (Qq P call K ops ah rest ds (n+1) (Qk n al x)) vs (u::l)=true:=by
    rcases Ze h with ⟨_,h3⟩ | ⟨_,h3⟩
    ·rcases Ze h3 with ⟨_,h4⟩ | ⟨_,h4⟩
     ·exact h4
     ·cases h4
    ·exact h3
   have e1:n+1+k=n+(k+1):=by omega
   have e2:(vs.take k).reverse++(u::l)=((u::vs).take (k+1)).reverse++l:=by simp
   have:=BU rest ds (n+1) (Qk n al x) vs (u::l) (by simpa using hl) hn k o v d' hk hv hd hlk hdi (by rw [e1,e2]; exact hw);rw [e1,e2] at this;exact this
theorem Zfj (ops:List Oper) {j:Nat} (h:j<ops.length):∃ b,(Zw ops [])[j]? = some b:=by
 obtain ⟨t,h1,h2⟩:=YO ops [];rw [h1,List.nil_append];exact ⟨t[j],List.getElem?_eq_getElem (by omega)⟩
theorem Lx (ops:List Oper):(Zw ops []).length=ops.length:=by
 obtain ⟨t,h1,h2⟩:=YO ops [];rw [h1,List.nil_append,h2]
theorem GO {x y:DI} (h:Xx x (Hc y)=true):Xx x y=true:=by
 unfold Xx at h ⊢;have e1:(Hc y).names=y.names:=rfl;have e2:(Hc y).dst=y.dst:=rfl;have e3:(Hc y).eff=false:=rfl;rw [e1,e2,e3] at h;rcases Ze h with ⟨g,_⟩ | ⟨g,h⟩
 ·rw [g]; rfl
 ·rw [g];rcases Ze h with ⟨g,_⟩ | ⟨g,h⟩
  ·rw [g]; rfl
  ·rw [g];rcases Ze h with ⟨g,_⟩ | ⟨g,h⟩
   ·rw [g]; rfl
   ·rw [Bool.and_false] at h; cases h
theorem GP {call:Zz} {K:ZK} {ops:Array Oper} {e0 e':Env} {s s':St} {x:Ex} {ah:List DI} (fM:Q7 P ops ops.toList (Zw ops.toList [])=ah) {L:List Zb} {E:Env} {S:St} {SS:List St}
  (hr:Hb e0 (Qq P call K ops ah ops.toList ah 0 .nil) [] e0 s [] = .ok L E S SS) (h:Lk e0 (Qq P call K ops ah ops.toList ah 0 .nil) (.ok L E S SS) = .ok x e' s') (hback:TH ops.toList 0=true)
  (hcl0:∀ i j x y,i<j->ah[i]? = some x->ah[j]? = some y->Xx x (Hc y)=true->Nat.testBit y.bf i=true)
  (yf:∀ i j x y,i<j->¬ X i j->ah[i]? = some x->ah[j]? = some y->x.eff=true->y.eff=true->Nat.testBit y.bf i=true) :
  x = .normal/\∃ (vs:List Zb) (st:Nat->St),Jc X P call K ops e0 vs st/\st 0=s/\st ops.toList.length=s'/\e'=JC K ops.toList vs e0/\vs=L.reverse:=by
 have hbl:=Lx ops.toList;have hdl:=Vf (P:=P) (ops:=ops) ops.toList (Zw ops.toList []) hbl;rw [fM] at hdl;have h:sel (looks e0 ((S::SS).reverse) (Qq P call K ops ah ops.toList ah 0 .nil) L.reverse []) (Res.ok .normal E S) .bad = .ok x e' s':=h;cases hl:looks e0 ((S::SS).reverse) (Qq P call K ops ah ops.toList ah 0 .nil) L.reverse []
 ·rw [hl] at h; cases h
 ·rw [hl] at h;cases h;obtain ⟨vs,aL,h1,h2,h3,h4,h5,h6,h7⟩:=trace ops.toList ah 0 .nil [] L e0 e' s s' [] SS hdl hr;rw [List.append_nil] at h3 h5;rw [h3,List.reverse_reverse] at hl;have hss:(s'::SS).reverse=KO ah aL++[s']:=by rw [List.reverse_cons,h5,List.reverse_reverse]
  rw [hss] at hl
  have hdi:∀ j o,ops.toList[j]? = some o->∃ b,(Zw ops.toList [])[j]? = some b/\ah[j]? = some (Lg P ops o b):=fun j o hj=>by
   obtain ⟨b,hb⟩:=Zfj ops.toList (List.getElem?_eq_some_iff.1 hj).1;refine ⟨b,hb,?_⟩;rw [<- fM];exact Lu ops.toList _ j hj hb
  have hcl:∀ i j oi oj bi bj,i<j->ops.toList[i]? = some oi->ops.toList[j]? = some oj->ah[i]? = some (Lg P ops oi bi)->ah[j]? = some (Lg P ops oj bj)->(Zw ops.toList [])[j]? = some bj ->
    Xx (Lg P ops oi bi) (Hc (Lg P ops oj bj))=true->XU (Zw ops.toList []) j i:=fun i j oi oj bi bj hij _ _ hi hj hb hc =>
   ⟨bj,hb,hcl0 i j _ _ hij hi hj hc⟩
  have iH:∀ {i t},ZZ ops.toList i=some t->∃ o,ops.toList[i]? = some o/\o.dst=some t:=fun {i t} hd=>by
   unfold ZZ at hd;rw [Option.bind_eq_some_iff] at hd;exact hd
  refine ⟨rfl,vs,fun j=>((aL++[s'])[j]?).getD s',⟨h1,fun j o hj => ?_,fun j o hj e he hb => ?_,fun i j o t hj ht hd => ?_,fun i j t hij hi hj => ?_,fun i j hij hX hi hj => ?_,?_⟩,?_,?_,h4,by rw [h3,List.reverse_reverse]⟩
  ·obtain ⟨v,s1,s2,g1,g2,g3,g4⟩:=h7 j o hj;rw [List.append_nil,Nat.zero_add] at g4;refine ⟨v,g1,?_⟩
   have e1:(aL++[s'])[j]? = some s1:=by
    rw [List.getElem?_append_left (List.getElem?_eq_some_iff.1 g2).1];exact g2
   simp only [e1,g3,Option.getD_some];exact g4
  ·have:=GN ops.toList 0 hback j o hj e he hb;omega
  ·obtain ⟨oi,hi,jm⟩:=iH hd;obtain ⟨bi,hbi,fO⟩:=hdi i oi hi;obtain ⟨bj,hbj,fP⟩:=hdi j o hj;exact ⟨fun hij=>hcl i j oi o bi bj hij hi hj fO fP hbj (Dp (t:=t) jm ht),fun hji=>hcl j i o oi bj bi hji hj hi fP fO hbi (Dq (t:=t) jm ht)⟩
  ·obtain ⟨oi,hi,jm⟩:=iH hi;obtain ⟨oj,hj,yg⟩:=iH hj;obtain ⟨bi,hbi,fO⟩:=hdi i oi hi;obtain ⟨bj,hbj,fP⟩:=hdi j oj hj;exact hcl i j oi oj bi bj hij hi hj fO fP hbj (Dr (t:=t) jm yg)
  ·obtain ⟨oi,hi,hei⟩:=hi;obtain ⟨oj,hj,hej⟩:=hj;obtain ⟨bi,hbi,fO⟩:=hdi i oi hi;obtain ⟨bj,hbj,fP⟩:=hdi j oj hj;exact ⟨bj,hbj,yf i j _ _ hij hX fO fP hei hej⟩
  ·intro j o v hj hk hv hw p hp hlo hhi;obtain ⟨b,hb,hd⟩:=hdi j o hj;obtain ⟨v',g1,hst⟩:=h7 j o hj
   have yh:QB K o=true:=by
    obtain ⟨_,_,_,_,g⟩:=hst;exact g.1
   have hla:=BU ops.toList ah 0 .nil vs [] hdl hl j o v _ hj hv hd (by show (WL P o.op).isL=true; rw [hk]; rfl) yh (by rw [List.append_nil,Nat.zero_add]; exact hw);rw [List.append_nil,Nat.zero_add] at hla
   have qg:∀ {k y},ah[k]? = some y->∃ o b,ops.toList[k]? = some o/\(Zw ops.toList [])[k]? = some b/\y=Lg P ops o b:=fun {k y} hy=>by
    have hkl:k<ops.toList.length:=by
     rw [<- hdl];exact (List.getElem?_eq_some_iff.1 hy).1
    obtain ⟨b,hb,hd⟩:=hdi k _ (List.getElem?_eq_getElem hkl);rw [hd] at hy;cases hy;exact ⟨_,b,List.getElem?_eq_getElem hkl,hb,rfl⟩
   have hat:=BS s' ah aL p (by rw [hdl,h2]) (by
    rcases hp with rfl | ⟨o',g1,g2⟩
    ·exact .inl hdl.symm
    ·obtain ⟨b',_,g3⟩:=hdi p o' g1
     exact .inr ⟨_,g3,g2⟩)
   have hpl:p<=ops.toList.length:=by
    rcases hp with rfl | ⟨o',g1,_⟩
    ·exact Nat.le_refl _
    ·exact Nat.le_of_lt (List.getElem?_eq_some_iff.1 g1).1
   have hsp:(aL++[s'])[p]? = some (((aL++[s'])[p]?).getD s'):=by
    rw [List.getElem?_eq_getElem (by rw [List.length_append,h2,List.length_singleton]; omega)];rfl
   rw [hsp] at hat;refine Lw _ 0 hla (cnt ah p) _ hat ?_ ?_
   ·rw [Nat.zero_add];refine lo_le b ah 0 p fun k y hy he htb => ?_;obtain ⟨o',b',g1,g2,rfl⟩:=qg hy;rw [Nat.zero_add] at htb;exact hlo k ⟨o',g1,he⟩ ⟨b,hb,htb⟩
   ·rw [Nat.zero_add];refine Zh5 j ah p fun k y hy hkp he => ?_;obtain ⟨o',b',g1,g2,rfl⟩:=qg hy;cases htb:Nat.testBit (Lg P ops o' b').bf j
    ·rfl
    ·exact absurd ⟨b',g2,htb⟩ (hhi k ⟨o',g1,he⟩ hkp)
  ·simp only [h6];rfl
  ·have:(aL++[s'])[ops.toList.length]? = some s':=by rw [<- h2,List.getElem?_append_right (Nat.le_refl _)]; simp
   simp only [this];rfl
theorem Zg4 {call:Zz} {K:ZK} {ops:Array Oper} {e0 e':Env} {s s':St} {x:Ex} (hg:BF P ops (Q7 P ops ops.toList (Zw ops.toList []))=true)
  (h:My (Qq P call K ops (Q7 P ops ops.toList (Zw ops.toList [])) ops.toList (Q7 P ops ops.toList (Zw ops.toList [])) 0 .nil) e0 s = .ok x e' s') :
  x = .normal/\∃ (vs:List Zb) (st:Nat->St),Jc (fun _ _=>False) P call K ops e0 vs st/\st 0=s/\st ops.toList.length=s'/\e'=JC K ops.toList vs e0:=by
 generalize fM:Q7 P ops ops.toList (Zw ops.toList [])=ah at h hg
 have h:Lk e0 (Qq P call K ops ah ops.toList ah 0 .nil) (Hb e0 (Qq P call K ops ah ops.toList ah 0 .nil) [] e0 s []) = .ok x e' s':=h
 have hgood:TH ops.toList 0=true/\YL [] ah=true:=by
  unfold BF at hg;rcases Ze hg with ⟨g1,g2⟩ | ⟨_,g2⟩
  ·exact ⟨g1,g2⟩
  ·cases g2
 have hcl:∀ i j x y,i<j->ah[i]? = some x->ah[j]? = some y->Xx x y=true->Nat.testBit y.bf i=true:=fun i j x y hij hi hj hc =>
  KP ah [] hgood.2 j _ hj i _ (by rw [List.nil_append]; exact hi) (by simpa using hij) hc
 cases hr:Hb e0 (Qq P call K ops ah ops.toList ah 0 .nil) [] e0 s [] with
 | bad=>rw [hr] at h; cases h
 | ok L E S SS =>
  rw [hr] at h
  obtain ⟨h1,vs,st,h2,h3,h4,h5,_⟩:=GP (X:=fun _ _=>False) fM hr h hgood.1 (fun i j x y hij hi hj hc=>hcl i j x y hij hi hj (GO hc))
   (fun i j x y hij _ hi hj hx hy=>hcl i j x y hij hi hj (Lv hx hy))
  exact ⟨h1,vs,st,h2,h3,h4,h5⟩
end Ev
namespace Ev
open Go
variable [Sig] {P:Program} {X:Nat->Nat->Prop}
def Rho.QC (r:Rho) (n:Nat):Rho:=fun i=>if i<n then r i else none
theorem Rho.Ko {r:Rho} {n i:Nat} {x:RB} (h:r.QC n i=some x):i<n/\r i=some x:=by
 unfold Rho.QC at h;split at h
 ·rename_i hi; exact ⟨hi,h⟩
 ·cases h
theorem Rho.Qn {r:Rho} {n i:Nat} (h:i<n):r.QC n i=r i:=if_pos h
theorem Rho.XM {r:Rho} {n i:Nat} (h:n<=i):r.QC n i=none:=if_neg (by omega)
theorem Rho.RZ {r q:Rho} {n m:Nat} (h:r.le q) (hn:n<=m):(r.QC n).le (q.QC m):=fun i x hx=>by
 obtain ⟨h1,h2⟩:=Rho.Ko hx;rw [Rho.Qn (Nat.lt_of_lt_of_le h1 hn)];exact h i x h2
theorem Rho.Ds {r:Rho} {n:Nat} (h:∀ i x,r i=some x->i<n):r.QC n=r:=by
 funext i
 by_cases hi:i<n
 ·exact Rho.Qn hi
 ·rw [Rho.XM (by omega)];cases e:r i with
  | none=>rfl
  | some x=>exact absurd (h i x e) hi
theorem Rho.ZaW {r:Rho} {n m:Nat} {x:RB} (h:n<m):(r.at n x).QC m=(r.QC m).at n x:=by
 funext i
 by_cases hi:i=n
 ·subst hi;rw [Rho.Qn h,Rho.Zn,Rho.Zn]
 ·rw [Rho.Zx _ x hi];unfold Rho.QC;rw [Rho.Zx r x hi]
theorem Rho.EA {r:Rho} {n m:Nat} {x:RB} (h:m<=n):(r.at n x).QC m=r.QC m:=by
 funext i
 by_cases hi:i<m
 ·rw [Rho.Qn hi,Rho.Qn hi,Rho.Zx _ x (by omega)]
 ·rw [Rho.XM (by omega),Rho.XM (by omega)]
theorem Rho.GQ {r:Rho} {n:Nat} {x:RB} (h:r n=some x):r.QC (n+1)=(r.QC n).at n x:=by
 funext i
 by_cases hi:i=n
 ·subst hi;rw [Rho.Qn (Nat.lt_succ_self _),Rho.Zn,h]
 ·rw [Rho.Zx _ x hi];by_cases h1:i<n
  ·rw [Rho.Qn h1,Rho.Qn (by omega)]
  ·rw [Rho.XM (by omega),Rho.XM (by omega)]
theorem Rho.Zcf {r:Rho} {n:Nat} (h:r n=none):r.QC (n+1)=r.QC n:=by
 funext i
 by_cases hi:i=n
 ·subst hi;rw [Rho.Qn (Nat.lt_succ_self _),Rho.XM (Nat.le_refl _),h]
 ·by_cases h1:i<n
  ·rw [Rho.Qn h1,Rho.Qn (by omega)]
  ·rw [Rho.XM (by omega),Rho.XM (by omega)]
theorem Rho.Ly {r q:Rho} {n:Nat} {x:RB} (h:r.le q):(r.at n x).le (q.at n x):=fun i y hy=>by
 by_cases hi:i=n
 ·subst hi; rw [Rho.Zn] at hy ⊢; exact hy
 ·rw [Rho.Zx _ x hi] at hy ⊢; exact h i y hy
section
variable {r0 q:Rho} {s0 s:St} {w0 w w':World}
theorem Ext.grow (h:Ext r0 s0 w0 q s w) (hf:∀ k,k<w.heap.size->w'.heap[k]? = w.heap[k]?) (hs:w.heap.size<=w'.heap.size) (ho:w'.os=w.os) (ht:w'.tape=w.tape) (hp:w'.output=w.output) :
  Ext r0 s0 w0 q s w' where
 rel:=by
  refine ⟨⟨fun i b x hb hx => ?_,h.rel.far⟩,h.rel.apart,h.rel.known,fun i x g hx hg=>(h.rel.safe i x g hx hg).step hs (fun k hk _=>hf k hk) fun k hk => .inl hk⟩;obtain ⟨o,h1,h2⟩:=h.rel.block i b x hb hx;exact ⟨o,by rw [hf _ (Array.getElem?_eq_some_iff.1 h1).1]; exact h1,h2⟩
 le:=h.le
 next:=h.next
 os:=ho.trans h.os
 tape:=ht.trans h.tape
 output:=hp.trans h.output
 size:=Nat.le_trans h.size hs
 frame:=fun k hk hn=>(hf k (Nat.lt_of_lt_of_le hk h.size)).trans (h.frame k hk hn)
 still:=h.still
 dead:=h.dead
 XP:=h.XP
 fresh:=h.fresh
 Wl:=h.Wl
theorem Ext.born (h:Ext r0 s0 w0 q s w) {n:Nat} {b:Zd} {y:RB} {o:Obj} (hq:q n=none) (hb:∀ c,s.get n=some c->c=b) (hns:n<s.next) (hn:s0.next<=n) (hy:w.heap.size<=y.blk) (hu:w'.heap[y.blk]? = some o) (hr:BR (q.at n y) b y o)
  (hf:∀ k,k<w.heap.size->w'.heap[k]? = w.heap[k]?) (hs:w.heap.size<=w'.heap.size) (ho:w'.os=w.os) (ht:w'.tape=w.tape) (hp:w'.output=w.output) (hgn:y.gho=none:=by rfl):Ext r0 s0 w0 (q.at n y) s w':=by
 have h1:=h.grow hf hs ho ht hp;have hle:=q.JU y hq
 have blk:∀ {i c x},s.get i=some c->q i=some x->x.blk<w.heap.size:=fun {i c x} hc hx=>by
  obtain ⟨o',g1,_⟩:=h.rel.block i c x hc hx;exact (Array.getElem?_eq_some_iff.1 g1).1
 refine ⟨⟨⟨fun i c x hc hx => ?_,h.rel.far⟩,fun i j c d x z hc hd hx hz hxz => ?_,fun i x hx => ?_,fun i x g hx hg => ?_⟩,Rho.le_trans h.le hle,h1.next,h1.os,h1.tape,h1.output,h1.size,h1.frame,h1.still,h1.dead,fun k ⟨i,c,x,hc,hx,hk⟩ => ?_,fun i hi hne => ?_,fun k hk=>h.Wl k (hk.Yq hgn)⟩
 ·by_cases hi:i=n
  ·subst hi;rw [Rho.Zn] at hx;cases hx;rw [hb c hc];exact ⟨o,hu,hr⟩
  ·rw [Rho.Zx _ y hi] at hx;obtain ⟨o',g1,g2⟩:=h1.rel.block i c x hc hx;exact ⟨o',g1,g2.mono hle⟩
 ·by_cases hi:i=n <;> by_cases hj:j=n
  ·rw [hi,hj]
  ·subst hi;rw [Rho.Zn] at hx;cases hx;rw [Rho.Zx _ y hj] at hz;have:=blk hd hz;omega
  ·subst hj;rw [Rho.Zn] at hz;cases hz;rw [Rho.Zx _ y hi] at hx;have:=blk hc hx;omega
  ·rw [Rho.Zx _ y hi] at hx;rw [Rho.Zx _ y hj] at hz;exact h.rel.apart i j c d x z hc hd hx hz hxz
 ·by_cases hi:i=n
  ·subst hi; exact hns
  ·rw [Rho.Zx _ y hi] at hx;exact h.rel.known i x hx
 ·by_cases hi:i=n
  ·subst hi;rw [Rho.Zn] at hx;cases hx;rw [hgn] at hg;cases hg
  ·rw [Rho.Zx _ y hi] at hx;refine (h.rel.safe i x g hx hg).step hs (fun k hk _=>hf k hk) fun k ⟨i,c,x,hc,hx,hk⟩ => ?_;by_cases hi:i=n
   ·subst hi;rw [Rho.Zn] at hx;cases hx;exact .inr (by omega)
   ·rw [Rho.Zx _ y hi] at hx;exact .inl ⟨i,c,x,hc,hx,hk⟩
 ·by_cases hi:i=n
  ·subst hi;rw [Rho.Zn] at hx;cases hx;have:=h.size;exact .inr (by omega)
  ·rw [Rho.Zx _ y hi] at hx;exact h.XP k ⟨i,c,x,hc,hx,hk⟩
 ·by_cases hin:i=n
  ·subst hin; exact hn
  ·rw [Rho.Zx _ y hin] at hne;exact h.fresh i hi hne
theorem Ext.skip (h:Ext r0 s0 w0 q s w) (b:Zd):Ext r0 s0 w0 q (s.new b) w:=by
 have hn:=h.rel.Qb (Nat.le_refl s.next)
 have back:∀ {i c x},(s.new b).get i=some c->q i=some x->s.get i=some c:=fun {i c x} hc hx=>by
  rw [St.ZC] at hc;by_cases hi:s.next=i
  ·subst hi; rw [hn] at hx; cases hx
  ·rw [if_neg hi] at hc; exact hc
 refine ⟨⟨⟨fun i c x hc hx=>h.rel.block i c x (back hc hx) hx,fun i hi => ?_⟩,fun i j c d x z hc hd hx hz=>h.rel.apart i j c d x z (back hc hx) (back hd hz) hx hz,fun i x hx => ?_,fun i x g hx hg=>(h.rel.safe i x g hx hg).step (Nat.le_refl _) (fun _ _ _=>rfl) fun k ⟨i,c,x,hc,hx,hk⟩ => .inl ⟨i,c,x,back hc hx,hx,hk⟩⟩,h.le,?_,h.os,h.tape,h.output,h.size,h.frame,fun i hi hr d hd => ?_,fun i hi hg => ?_,fun k ⟨i,c,x,hc,hx,hk⟩=>h.XP k ⟨i,c,x,back hc hx,hx,hk⟩,h.fresh,h.Wl⟩
 ·rw [St.Qo] at hi;rw [St.ZC,if_neg (by omega)];exact h.rel.far i (by omega)
 ·rw [St.Qo];have:=h.rel.known i x hx;omega
 ·rw [St.Qo];have:=h.next;omega
 ·have:=h.next;rw [St.ZC,if_neg (by omega)] at hd;exact h.still i hi hr d hd
 ·have:=h.next;rw [St.ZC,if_neg (by omega)];exact h.dead i hi hg
theorem Ext.Zj8 (h:Ext r0 s0 w0 q s w) {b:Zd} {x:RB} {o:Obj} (hx:w.heap[x.blk]? = some o) (hr:BR (q.at s.next x) b x o) (hh:¬ Hit q s x.blk) (h0:w0.heap.size<=x.blk) (hgn:x.gho=none) (hft:¬ JB q x.blk):Ext r0 s0 w0 (q.at s.next x) (s.new b) w:=by
 have hn:=h.rel.Qb (Nat.le_refl s.next);have hle:=q.JU x hn;have h1:=h.skip b
 have back:∀ {i c z},(s.new b).get i=some c->(q.at s.next x) i=some z->(i=s.next/\c=b/\z=x)\/(i≠s.next/\s.get i=some c/\q i=some z):=fun {i c z} hc hz=>by
  rw [St.ZC] at hc;by_cases hi:s.next=i
  ·subst hi;rw [if_pos rfl] at hc;cases hc;rw [Rho.Zn] at hz;cases hz;exact .inl ⟨rfl,rfl,rfl⟩
  ·rw [if_neg hi] at hc;rw [Rho.Zx _ x (Ne.symm hi)] at hz;exact .inr ⟨Ne.symm hi,hc,hz⟩
 refine ⟨⟨⟨fun i c z hc hz => ?_,h1.rel.far⟩,fun i j c d y z hc hd hy hz bP => ?_,fun i z hz => ?_,fun i z g hz hg => ?_⟩,Rho.le_trans h.le hle,h1.next,h1.os,h1.tape,h1.output,h1.size,h1.frame,h1.still,h1.dead,fun k ⟨i,c,z,hc,hz,hk⟩ => ?_,fun i hi hne => ?_,fun k hk=>h.Wl k (hk.Yq hgn)⟩
 ·rcases back hc hz with ⟨rfl,rfl,rfl⟩ | ⟨g1,g2,g3⟩
  ·exact ⟨o,hx,hr⟩
  ·obtain ⟨o',g4,g5⟩:=h.rel.block i c z g2 g3;exact ⟨o',g4,g5.mono hle⟩
 ·rcases back hc hy with ⟨rfl,rfl,rfl⟩ | ⟨g1,g2,g3⟩ <;> rcases back hd hz with ⟨rfl,rfl,rfl⟩ | ⟨k1,k2,k3⟩
  ·rfl
  ·exact absurd ⟨j,d,z,k2,k3,bP.symm⟩ hh
  ·exact absurd ⟨i,c,y,g2,g3,bP⟩ hh
  ·exact h.rel.apart i j c d y z g2 k2 g3 k3 bP
 ·rw [St.Qo];by_cases hi:i=s.next
  ·omega
  ·rw [Rho.Zx _ x hi] at hz;have:=h.rel.known i z hz;omega
 ·by_cases hi:i=s.next
  ·subst hi;rw [Rho.Zn] at hz;cases hz;rw [hgn] at hg;cases hg
  ·rw [Rho.Zx _ x hi] at hz;obtain ⟨g1,g2⟩:=h.rel.safe i z g hz hg;refine ⟨g1,fun k hk hl=>⟨(g2 k hk hl).1,fun ⟨j,c,y,hc,hy,hjk⟩ => ?_⟩⟩;rcases back hc hy with ⟨rfl,rfl,rfl⟩ | ⟨k1,k2,k3⟩
   ·subst hjk;exact hft ⟨i,z,g,hz,hg,hk,hl⟩
   ·exact (g2 k hk hl).2 ⟨j,c,y,k2,k3,hjk⟩
 ·rcases back hc hz with ⟨rfl,rfl,rfl⟩ | ⟨g1,g2,g3⟩
  ·exact .inr (by omega)
  ·exact h.XP k ⟨i,c,z,g2,g3,hk⟩
 ·by_cases hin:i=s.next
  ·rw [hin]; exact h.next
  ·rw [Rho.Zx _ x hin] at hne;exact h.fresh i hi hne
end
end Ev
namespace Ev
open Go
variable [Sig] {P:Program} {X:Nat->Nat->Prop}
mutual
theorem VR.low {r:Rho} {n:Nat}:∀ {v:Zb} {u:Value},VR r v u->Ma n v=true->VR (r.QC n) v u
 | _,_,.bool b,_ => .bool b
 | _,_,.int k m,_ => .int k m
 | _,_,.flt k b,_ => .flt k b
 | _,_,.Z4 k a b,_ => .Z4 k a b
 | _,_,.str l,_ => .str l
 | _,_,.Zo,_ => .Zo
 | _,_,.ptr h,hl => .ptr (by rw [Rho.Qn (QI hl)]; exact h)
 | _,_,.Za,_ => .Za
 | _,_,.Z8 a c,_ => .Z8 a c
 | _,_,.slice h hn hc hu,hl => .slice (by rw [Rho.Qn (QI hl)]; exact h) hn hc hu
 | _,_,.Zk,_ => .Zk
 | _,_,.map h,hl => .map (by rw [Rho.Qn (QI hl)]; exact h)
 | .func f a b,_,.func _ ha hb,hl=>by
  have hl:Bool.and (Yf n a) (Yf n b)=true:=hl;rw [Bool.and_eq_true] at hl;exact .func f (VRs.low ha hl.1) (VRs.low hb hl.2)
 | _,_,.ZQ,_ => .ZQ
 | _,_,.nilIface,_ => .nilIface
 | .iface t v,_,.iface _ h,hl=>by
  have hl:Ma n v=true:=hl;exact .iface t (VR.low h hl)
 | .agg l,_,.agg h,hl=>by
  have hl:Yf n l=true:=hl;exact .agg (VRs.low h hl)
 | .tuple l,_,.tuple h,hl=>by
  have hl:Yf n l=true:=hl;exact .tuple (VRs.low h hl)
 | _,_,.sint k h,_ => .sint k h
 | _,_,.raw h,_ => .raw h
 | .gho id _,_,.gho h hg hu hm,hl => .gho (by rw [Rho.Qn (show id<n from by simpa [Ma] using hl)]; exact h) hg hu hm
theorem VRs.low {r:Rho} {n:Nat}:∀ {l:List Zb} {l':List Value},VRs r l l'->Yf n l=true->VRs (r.QC n) l l'
 | _,_,.nil,_ => .nil
 | v::l,_,.cons h t,hl=>by
  have hl:Bool.and (Ma n v) (Yf n l)=true:=hl;rw [Bool.and_eq_true] at hl;exact .cons (VR.low h hl.1) (VRs.low t hl.2)
end
section
variable {call:Zz} {K:ZK} {ops:Array Oper} {e0:Env} {vs:List Zb} {st:Nat->St}
noncomputable abbrev Xy (ops:Array Oper) (j:Nat):Cod:=Jz j (Xu ops.toList 0 .nil j)
def Made (P:Program) (ops:Array Oper) (e0:Env) (vs:List Zb) (j:Nat):Prop :=
 ∃ o,ops.toList[j]? = some o/\WL P o.op = .make/\wanted (vs.take j).reverse e0 (guardOf (Xy ops j) ops o) = .yes
theorem Jc.Dt (hp:Jc X P call K ops e0 vs st) (hcall:Z7 P call) {j:Nat} (hj:j<ops.toList.length) (he:¬ Jv P ops j) :
  (Made P ops e0 vs j/\∃ b,st (j+1)=(st j).new b)\/(¬ Made P ops e0 vs j/\st (j+1)=st j):=by
 have ho:ops.toList[j]? = some ops.toList[j]:=List.getElem?_eq_getElem hj;obtain ⟨v,hv,_,hn,_,h⟩:=hp.step j _ ho;rcases h with ⟨hw,hr⟩ | ⟨hw,rfl,hs⟩
 ·have h1:=PR hcall hr;cases hk:WL P (ops.toList[j]).op with
  | pure =>
   rw [hk] at h1;refine .inr ⟨fun ⟨o,g1,g2,_⟩ => ?_,h1.1⟩;rw [ho] at g1; cases g1; rw [hk] at g2; cases g2
  | look =>
   rw [hk] at h1;refine .inr ⟨fun ⟨o,g1,g2,_⟩ => ?_,h1.1⟩;rw [ho] at g1; cases g1; rw [hk] at g2; cases g2
  | make =>
   rw [hk] at h1;obtain ⟨mk,b,_,h2,_⟩:=h1;exact .inl ⟨⟨_,ho,hk,hw⟩,b,h2⟩
  | eff=>exact absurd ⟨_,ho,by rw [hk]; rfl⟩ he
 ·refine .inr ⟨fun ⟨o,g1,_,g3⟩ => ?_,hs⟩;rw [ho] at g1; cases g1; rw [hw] at g3; cases g3
theorem Jc.GR (hp:Jc X P call K ops e0 vs st):∀ (d i:Nat),i+d<=ops.toList.length->(st i).next<=(st (i+d)).next
 | 0,i,_=>Nat.le_refl _
 | d+1,i,h=>by
  have ho:ops.toList[i+d]? = some ops.toList[i+d]:=List.getElem?_eq_getElem (by omega);obtain ⟨v,hv,_,hn,_,_⟩:=hp.step _ _ ho;exact Nat.le_trans (Jc.GR hp d i (by omega)) hn
theorem Jc.Vg (hp:Jc X P call K ops e0 vs st) {i j:Nat} (h:i<=j) (hj:j<=ops.toList.length):(st i).next<=(st j).next:=by
 have:=hp.GR (j-i) i (by omega);rw [show i+(j-i)=j by omega] at this;exact this
theorem Made.lt {j:Nat} (h:Made P ops e0 vs j):j<ops.toList.length:=by
 obtain ⟨o,h1,_⟩:=h;exact (List.getElem?_eq_some_iff.1 h1).1
theorem Made.Lz {j:Nat} (h:Made P ops e0 vs j):¬ Jv P ops j:=by
 obtain ⟨o,h1,h2,_⟩:=h;rintro ⟨o',g1,g2⟩;rw [h1] at g1; cases g1; rw [h2] at g2; cases g2
theorem Jc.Zcg (hp:Jc X P call K ops e0 vs st) (hcall:Z7 P call) {j:Nat} (h:Made P ops e0 vs j):∃ b,st (j+1)=(st j).new b:=by
 rcases hp.Dt hcall h.lt h.Lz with ⟨_,h1⟩ | ⟨h1,_⟩
 ·exact h1
 ·exact absurd h h1
theorem Jc.YP (hp:Jc X P call K ops e0 vs st) (hcall:Z7 P call) {j m:Nat} (h:Made P ops e0 vs j) (hjm:j<m) (hm:m<=ops.toList.length):(st j).next<(st m).next:=by
 obtain ⟨b,hb⟩:=hp.Zcg hcall h;have h1:=hp.Vg (show j+1<=m from hjm) hm;rw [hb,St.Qo] at h1;omega
theorem Jc.Zg5 (hp:Jc X P call K ops e0 vs st) (hcall:Z7 P call) {j k:Nat} (h:Made P ops e0 vs j) (h':Made P ops e0 vs k) (hn:(st j).next=(st k).next):j=k:=by
 rcases Nat.lt_trichotomy j k with h1 | h1 | h1
 ·have:=hp.YP hcall h h1 (Nat.le_of_lt h'.lt); omega
 ·exact h1
 ·have:=hp.YP hcall h' h1 (Nat.le_of_lt h.lt); omega
structure Iv (P:Program) (call:Zz) (K:ZK) (ops:Array Oper) (e0:Env) (vs:List Zb) (st:Nat->St) (r0:Rho) (w0:World) (a0:Act) (D:Nat->Prop) (m:Nat) (r:Rho) (a:Act) (w:World):Prop where
 closed:Dl (Zw ops.toList []) D
 Yg:∀ i,Jv P ops i->(D i↔i<m)
 le:m<=ops.toList.length
 ext:Ext r0 (st 0) w0 (r.QC (st m).next) (st m) w
 LB:∀ i t v,D i->ZZ ops.toList i=some t->(∀ k,i<k->D k->ZZ ops.toList k≠some t)->vs[i]? = some v->VR r v (a.tmps.getD t undef)
 LC:∀ t,(∀ k,D k->ZZ ops.toList k≠some t)->a.tmps.getD t undef=a0.tmps.getD t undef
 size:a.tmps.size=a0.tmps.size
 defs:a.defers=[]
 early:∀ j,m<=j->D j->Made P ops e0 vs j->∃ x b o,r (st j).next=some x/\(st (j+1)).get (st j).next=some b/\BR (r.QC ((st j).next+1)) b x o/\w.heap[x.blk]? = some o/\w0.heap.size<=x.blk/\¬ Hit (r.QC (st m).next) (st m) x.blk/\x.gho=none/\¬ JB (r.QC (st m).next) x.blk
 apart:∀ j k x y,m<=j->m<=k->D j->D k->Made P ops e0 vs j->Made P ops e0 vs k->r (st j).next=some x->r (st k).next=some y->x.blk=y.blk->j=k
 later:∀ j,¬ D j->Made P ops e0 vs j->r (st j).next=none/\(j<m->∀ b,(st m).get (st j).next=some b->(st (j+1)).get (st j).next=some b)
 known:∀ i x,r i=some x->i<(st m).next\/∃ j,m<=j/\D j/\Made P ops e0 vs j/\i=(st j).next
variable {r0:Rho} {w0:World} {a0:Act} {D:Nat->Prop} {m:Nat} {r:Rho} {a:Act} {w:World}
theorem Iv.start (hp:Jc X P call K ops e0 vs st) (hr:Rel r0 (st 0) w0) (ha:a0.defers=[]):Iv P call K ops e0 vs st r0 w0 a0 (fun _=>False) 0 r0 a0 w0:=by
 have ht:r0.QC (st 0).next=r0:=Rho.Ds hr.known;refine ⟨fun j hj=>hj.elim,fun i _=>⟨fun h=>h.elim,fun h=>by omega⟩,Nat.zero_le _,by rw [ht]; exact Ext.refl hr,fun i t v h=>h.elim,fun t _=>rfl,rfl,ha,fun j _ h=>h.elim,fun j k x y _ _ h=>h.elim,fun j _ hm => ?_,fun i x h => .inl (hr.known i x h)⟩;exact ⟨hr.Qb (hp.Vg (Nat.zero_le j) (Nat.le_of_lt hm.lt)),fun h=>by omega⟩
theorem Iv.on (hp:Jc X P call K ops e0 vs st) (hcall:Z7 P call) (h:Iv P call K ops e0 vs st r0 w0 a0 D m r a w) (hm:m<ops.toList.length) (he:¬ Jv P ops m) :
  Iv P call K ops e0 vs st r0 w0 a0 D (m+1) r a w:=by
 have iI:∀ i,Jv P ops i->(D i↔i<m+1):=fun i hi=>by
  rw [h.Yg i hi];refine ⟨fun h=>by omega,fun h => ?_⟩;by_cases hi':i=m
  ·subst hi'; exact absurd hi he
  ·omega
 rcases hp.Dt hcall hm he with ⟨bS,b,hb⟩ | ⟨bS,hs⟩
 ·have hnx:(st (m+1)).next=(st m).next+1:=by rw [hb,St.Qo]
  by_cases hD:D m
  ·obtain ⟨x,b',o,h1,h2,h3,h4,h5,h6,h7,h8⟩:=h.early m (Nat.le_refl _) hD bS
   have hbb:b'=b:=by
    rw [hb,St.ZC,if_pos rfl] at h2;cases h2; rfl
   subst hbb;have ht:r.QC (st (m+1)).next=(r.QC (st m).next).at (st m).next x:=by rw [hnx]; exact Rho.GQ h1
   have bD:Ext r0 (st 0) w0 ((r.QC (st m).next).at (st m).next x) ((st m).new b') w:=h.ext.Zj8 h4 (by rw [<- Rho.GQ h1]; exact h3) h6 h5 h7 h8;refine ⟨h.closed,iI,hm,by rw [ht,hb]; exact bD,h.LB,h.LC,h.size,h.defs,fun j hj dw hMj => ?_,fun j k y z hj hk=>h.apart j k y z (by omega) (by omega),fun j dw hMj => ?_,fun i y hy => ?_⟩
   ·obtain ⟨y,c,o',g1,g2,g3,g4,g5,g6,g7,g8⟩:=h.early j (by omega) dw hMj;refine ⟨y,c,o',g1,g2,g3,g4,g5,?_,g7,by rw [ht]; exact fun hf=>g8 (hf.Yq h7)⟩;rw [ht,hb];rintro ⟨i,d,z,k1,k2,k3⟩;by_cases hi:i=(st m).next
    ·subst hi;rw [Rho.Zn] at k2;cases k2;have:=h.apart m j x y (Nat.le_refl _) (by omega) hD dw bS hMj h1 g1 k3;omega
    ·rw [Rho.Zx _ x hi] at k2;rw [St.ZC,if_neg (Ne.symm hi)] at k1;exact g6 ⟨i,d,z,k1,k2,k3⟩
   ·obtain ⟨g1,g2⟩:=h.later j dw hMj;refine ⟨g1,fun hjm d hd => ?_⟩
    have fQ:j<m:=by
     rcases Nat.lt_or_ge j m with h7 | h7
     ·exact h7
     ·have:j=m:=by omega
      subst this; exact absurd hD dw
    have:=hp.YP hcall hMj fQ (Nat.le_of_lt hm);rw [hb,St.ZC,if_neg (by omega)] at hd;exact g2 fQ d hd
   ·rcases h.known i y hy with g | ⟨j,g1,g2,g3,g4⟩
    ·exact .inl (by omega)
    ·by_cases hjm:j=m
     ·subst hjm; exact .inl (by omega)
     ·exact .inr ⟨j,by omega,g2,g3,g4⟩
  ·obtain ⟨h1,_⟩:=h.later m hD bS;have ht:r.QC (st (m+1)).next=r.QC (st m).next:=by rw [hnx]; exact Rho.Zcf h1
   refine ⟨h.closed,iI,hm,by rw [ht,hb]; exact h.ext.skip b,h.LB,h.LC,h.size,h.defs,fun j hj dw hMj => ?_,fun j k y z hj hk=>h.apart j k y z (by omega) (by omega),fun j dw hMj => ?_,fun i y hy => ?_⟩
   ·obtain ⟨y,c,o',g1,g2,g3,g4,g5,g6,g7,g8⟩:=h.early j (by omega) dw hMj;refine ⟨y,c,o',g1,g2,g3,g4,g5,?_,g7,by rw [ht]; exact g8⟩;rw [ht,hb];rintro ⟨i,d,z,k1,k2,k3⟩
    have hi:i≠(st m).next:=fun e=>by
     have:=(Rho.Ko k2).1;omega
    rw [St.ZC,if_neg (Ne.symm hi)] at k1;exact g6 ⟨i,d,z,k1,k2,k3⟩
   ·obtain ⟨g1,g2⟩:=h.later j dw hMj;refine ⟨g1,fun hjm d hd => ?_⟩;by_cases fQ:j=m
    ·subst fQ; exact hd
    ·have:=hp.YP hcall hMj (show j<m by omega) (Nat.le_of_lt hm);rw [hb,St.ZC,if_neg (by omega)] at hd;exact g2 (by omega) d hd
   ·rcases h.known i y hy with g | ⟨j,g1,g2,g3,g4⟩
    ·exact .inl (by omega)
    ·by_cases hjm:j=m
     ·subst hjm; exact absurd g2 hD
     ·exact .inr ⟨j,by omega,g2,g3,g4⟩
 ·refine ⟨h.closed,iI,hm,by rw [hs]; exact h.ext,h.LB,h.LC,h.size,h.defs,fun j hj dw hMj => ?_,fun j k y z hj hk=>h.apart j k y z (by omega) (by omega),fun j dw hMj => ?_,fun i y hy => ?_⟩
  ·obtain ⟨y,c,o',g1,g2,g3,g4,g5,g6,g7,g8⟩:=h.early j (by omega) dw hMj;exact ⟨y,c,o',g1,g2,g3,g4,g5,by rw [hs]; exact g6,g7,by rw [hs]; exact g8⟩
  ·obtain ⟨g1,g2⟩:=h.later j dw hMj;refine ⟨g1,fun hjm d hd => ?_⟩;by_cases fQ:j=m
   ·subst fQ; exact absurd hMj bS
   ·rw [hs] at hd; exact g2 (by omega) d hd
  ·rcases h.known i y hy with g | ⟨j,g1,g2,g3,g4⟩
   ·exact .inl (by rw [hs]; exact g)
   ·by_cases hjm:j=m
    ·subst hjm; exact absurd g3 bS
    ·exact .inr ⟨j,by omega,g2,g3,g4⟩
theorem Iv.full (hp:Jc X P call K ops e0 vs st) (hcall:Z7 P call):∀ (d:Nat) {m:Nat},ops.toList.length-m=d->Iv P call K ops e0 vs st r0 w0 a0 D m r a w ->
  ∃ p,Iv P call K ops e0 vs st r0 w0 a0 D p r a w/\(p=ops.toList.length\/Jv P ops p)
 | 0,m,hd,h=>⟨m,h,.inl (by have:=h.le; omega)⟩
 | d+1,m,hd,h=>by
  by_cases he:Jv P ops m
  ·exact ⟨m,h,.inr he⟩
  ·exact Iv.full hp hcall d (m:=m+1) (by omega) (h.on hp hcall (by omega) he)
end
end Ev
namespace Ev
open Go
variable [Sig] {P:Program} {X:Nat->Nat->Prop}
theorem XG {t:Tmp}:∀ {l:List Operand},Operand.tmp t∈l->t∈Lf l
 | .tmp u::l,h=>by
  rcases List.mem_cons.1 h with h | h
  ·cases h; exact List.mem_cons_self ..
  ·exact List.mem_cons_of_mem _ (XG h)
 | .const v::l,h=>by
  rcases List.mem_cons.1 h with h | h
  ·cases h
  ·exact XG (l:=l) h
 | .global g::l,h=>by
  rcases List.mem_cons.1 h with h | h
  ·cases h
  ·exact XG (l:=l) h
 | .func f::l,h=>by
  rcases List.mem_cons.1 h with h | h
  ·cases h
  ·exact XG (l:=l) h
section
variable {call:Zz} {K:ZK} {ops:Array Oper} {e0:Env} {vs:List Zb} {st:Nat->St}
variable {r0:Rho} {w0:World} {a0:Act} {D D':Nat->Prop} {m:Nat} {r:Rho} {a:Act} {w:World}
theorem Iv.read (hp:Jc X P call K ops e0 vs st) (hr0:Rel r0 (st 0) w0) (he0:Qr K r0 e0 a0) (h:Iv P call K ops e0 vs st r0 w0 a0 D m r a w) {j:Nat} {o:Oper} (ho:ops.toList[j]? = some o) (hD:¬ D j)
  (hr:∀ i,XU (Zw ops.toList []) j i->D i) {t:Tmp} (ht:t∈Dm ops o) {v:Zb} (hv:Zl (vs.take j).reverse e0 (Xy ops j (.tmp t)) = .ok v):VR (r.QC (st j).next) v (a.tmps.getD t undef):=by
 have hjl:=(List.getElem?_eq_some_iff.1 ho).1;have behind:∀ k,j<k->D k->ZZ ops.toList k≠some t:=fun k hjk ay hk=>hD (h.closed k ay j ((hp.reads k j o t ho ht hk).2 hjk));rcases Ls (Nat.le_of_lt hjl) hp.len hv with ⟨i,hij,hdi,hlast,fZ⟩ | ⟨hnone,hget⟩
 ·have lU:D i:=hr i ((hp.reads i j o t ho ht hdi).1 hij)
  have h1:=h.LB i t v lU hdi (fun k hik ay hk=>by
   rcases Nat.lt_trichotomy k j with g | g | g
   ·exact hlast k hik g hk
   ·subst g; exact hD ay
   ·exact behind k g ay hk) fZ
  obtain ⟨v',hv',_,_,hlow,_⟩:=hp.step i _ (List.getElem?_eq_getElem (show i<ops.toList.length by omega));rw [fZ] at hv';cases hv';exact (h1.low hlow).mono (Rho.RZ r.le_refl (hp.Vg hij (Nat.le_of_lt hjl)))
 ·rw [h.LC t fun k ay hk=>by
   rcases Nat.lt_trichotomy k j with g | g | g
   ·exact hnone k g hk
   ·subst g; exact hD ay
   ·exact behind k g ay hk]
  refine (he0.env t v hget).2.mono fun i x hx => ?_;have h1:=hr0.known i x hx;have h2:=hp.Vg (Nat.zero_le j) (Nat.le_of_lt hjl);rw [Rho.Qn (by omega)];exact (Rho.Ko (h.ext.le i x hx)).2
theorem Iv.cx (hp:Jc X P call K ops e0 vs st) (hr0:Rel r0 (st 0) w0) (he0:Qr K r0 e0 a0) (h:Iv P call K ops e0 vs st r0 w0 a0 D m r a w) {j:Nat} {o:Oper} (ho:ops.toList[j]? = some o) (hD:¬ D j)
  (hr:∀ i,XU (Zw ops.toList []) j i->D i):Cx (r.QC (st j).next) (vs.take j).reverse e0 (Xy ops j) a o.op:=by
 intro x hx v hv;cases x with
 | tmp t=>exact h.read hp hr0 he0 ho hD hr (List.mem_append_left _ (XG (Array.mem_toList_iff.2 hx))) hv
 | const u =>
  have hv:Zl (vs.take j).reverse e0 (P9 u) = .ok v:=hv;unfold P9 at hv;split at hv
  ·rename_i b hb;cases hv;exact SY _ u _ hb
  ·cases hv
 | func f =>
  cases hv;exact .func f .nil .nil
 | _=>cases hv
theorem Iv.put (hp:Jc X P call K ops e0 vs st) (he0:Qr K r0 e0 a0) (h:Iv P call K ops e0 vs st r0 w0 a0 D m r a w) {j:Nat} {o:Oper} (ho:ops.toList[j]? = some o) (hdi:QB K o=true) (hD:¬ D j)
  (hD':∀ k,D' k↔D k\/k=j) {r':Rho} (hle:r.le r') {v:Zb} {u:Value} (hv:vs[j]? = some v) (aP:VR r' v u) :
  (∀ i t v,D' i->ZZ ops.toList i=some t->(∀ k,i<k->D' k->ZZ ops.toList k≠some t)->vs[i]? = some v->VR r' v ((a.put o.dst u).tmps.getD t undef)) /\
   (∀ t,(∀ k,D' k->ZZ ops.toList k≠some t)->(a.put o.dst u).tmps.getD t undef=a0.tmps.getD t undef):=by
 have hdst:ZZ ops.toList j=o.dst:=by unfold ZZ; rw [ho]; rfl
 have dw:D' j:=(hD' j).2 (.inr rfl)
 have ne:∀ {t},o.dst≠some t->(a.put o.dst u).tmps.getD t undef=a.tmps.getD t undef:=fun {t} hn=>by
  cases hd:o.dst with
  | none=>rfl
  | some d=>exact Ju fun e=>hn (by rw [hd,e])
 refine ⟨fun i t v' lU hit hlast fZ => ?_,fun t hn => ?_⟩
 ·by_cases hij:i=j
  ·subst hij;rw [hv] at fZ;cases fZ;rw [hdst] at hit;rw [hit];rw [JJ]
   ·exact aP
   ·unfold QB at hdi;rw [hit] at hdi;rw [h.size];exact Nat.lt_of_lt_of_le (QI hdi) he0.size
  ·have iJ:D i:=((hD' i).1 lU).resolve_right hij
   have hn:o.dst≠some t:=fun e=>by
    rcases Nat.lt_or_ge i j with g | g
    ·exact hlast j g dw (by rw [hdst,e])
    ·exact hD (h.closed i iJ j (hp.writes j i t (by omega) (by rw [hdst,e]) hit))
   rw [ne hn];exact (h.LB i t v' iJ hit (fun k hik ay=>hlast k hik ((hD' k).2 (.inl ay))) fZ).mono hle
 ·rw [ne (fun e=>hn j dw (by rw [hdst,e]))];exact h.LC t fun k ay=>hn k ((hD' k).2 (.inl ay))
theorem Iv.R0 (h:Iv P call K ops e0 vs st r0 w0 a0 D m r a w) {j:Nat} (hr:∀ i,XU (Zw ops.toList []) j i->D i) (hD':∀ k,D' k↔D k\/k=j):Dl (Zw ops.toList []) D':=fun k hk i hi=>by
 rcases (hD' k).1 hk with g | g
 ·exact (hD' i).2 (.inl (h.closed k g i hi))
 ·subst g; exact (hD' i).2 (.inl (hr i hi))
theorem YQ (h:Iv P call K ops e0 vs st r0 w0 a0 D m r a w) (d:Option Tmp) (u:Value):(a.put d u).tmps.size=a0.tmps.size/\(a.put d u).defers=[] :=
 ⟨by rw [RW]; exact h.size,by rw [RX]; exact h.defs⟩
theorem Iv.quiet (hp:Jc X P call K ops e0 vs st) (he0:Qr K r0 e0 a0) (h:Iv P call K ops e0 vs st r0 w0 a0 D m r a w) {j:Nat} {o:Oper} (ho:ops.toList[j]? = some o) (hD:¬ D j)
  (hr:∀ i,XU (Zw ops.toList []) j i->D i) (hD':∀ k,D' k↔D k\/k=j) (hne:¬ Jv P ops j) (hnm:¬ Made P ops e0 vs j) {v:Zb} {u:Value} (hdi:QB K o=true) (hv:vs[j]? = some v) (aP:VR r v u) :
  Iv P call K ops e0 vs st r0 w0 a0 D' m r (a.put o.dst u) w:=by
 obtain ⟨h1,h2⟩:=h.put hp he0 ho hdi hD hD' r.le_refl hv aP;obtain ⟨h3,h4⟩:=YQ h o.dst u;have dm:∀ {k},D' k->Made P ops e0 vs k->D k:=fun {k} hk hm=>((hD' k).1 hk).resolve_right fun e=>hnm (e▸hm)
 refine ⟨h.R0 hr hD',fun i hi => ?_,h.le,h.ext,h1,h2,h3,h4,fun k hk ay aC=>h.early k hk (dm ay aC) aC,fun k l x y hk hl ay hDl aC dR=>h.apart k l x y hk hl (dm ay aC) (dm hDl dR) aC dR,
  fun k ay aC=>h.later k (fun g=>ay ((hD' k).2 (.inl g))) aC,fun i x hx => ?_⟩
 ·rw [<- h.Yg i hi,hD' i];exact ⟨fun g=>g.resolve_right fun e=>hne (e▸hi),.inl⟩
 ·rcases h.known i x hx with g | ⟨k,g1,g2,g3,g4⟩
  ·exact .inl g
  ·exact .inr ⟨k,g1,(hD' k).2 (.inl g2),g3,g4⟩
theorem Iv.Zfk (hp:Jc X P call K ops e0 vs st) (he0:Qr K r0 e0 a0) (h:Iv P call K ops e0 vs st r0 w0 a0 D m r a w) {o:Oper} (ho:ops.toList[m]? = some o) (hD:¬ D m)
  (hr:∀ i,XU (Zw ops.toList []) m i->D i) (hD':∀ k,D' k↔D k\/k=m) (hne:Jv P ops m) {v:Zb} {u:Value} (hdi:QB K o=true) (hv:vs[m]? = some v) (aP:VR r v u) (hs:st (m+1)=st m) :
  Iv P call K ops e0 vs st r0 w0 a0 D' (m+1) r (a.put o.dst u) w:=by
 obtain ⟨h1,h2⟩:=h.put hp he0 ho hdi hD hD' r.le_refl hv aP;obtain ⟨h3,h4⟩:=YQ h o.dst u;have dz:=(List.getElem?_eq_some_iff.1 ho).1;have nm:∀ {k},Made P ops e0 vs k->k≠m:=fun {k} hk e=>by subst e; exact hk.Lz hne
 have dm:∀ {k},D' k->Made P ops e0 vs k->D k:=fun {k} hk hm=>((hD' k).1 hk).resolve_right (nm hm)
 refine ⟨h.R0 hr hD',fun i hi => ?_,dz,by rw [hs]; exact h.ext,h1,h2,h3,h4,fun k hk ay aC=>by rw [hs]; exact h.early k (by omega) (dm ay aC) aC,fun k l x y hk hl ay hDl aC dR=>h.apart k l x y (by omega) (by omega) (dm ay aC) (dm hDl dR) aC dR,
  fun k ay aC => ?_,fun i x hx => ?_⟩
 ·rw [hD' i,h.Yg i hi];omega
 ·obtain ⟨g1,g2⟩:=h.later k (fun g=>ay ((hD' k).2 (.inl g))) aC;have:=nm aC;exact ⟨g1,fun hk d hd=>by rw [hs] at hd; exact g2 (by omega) d hd⟩
 ·rcases h.known i x hx with g | ⟨k,g1,g2,g3,g4⟩
  ·exact .inl (by rw [hs]; exact g)
  ·have:=nm g3;exact .inr ⟨k,by omega,(hD' k).2 (.inl g2),g3,g4⟩
theorem Iv.effect (hp:Jc X P call K ops e0 vs st) (hcall:Z7 P call) (he0:Qr K r0 e0 a0) (h:Iv P call K ops e0 vs st r0 w0 a0 D m r a w) {o:Oper} (ho:ops.toList[m]? = some o) (hD:¬ D m)
  (hr:∀ i,XU (Zw ops.toList []) m i->D i) (hD':∀ k,D' k↔D k\/k=m) (hne:Jv P ops m) {v:Zb} {u:Value} (hdi:QB K o=true) (hv:vs[m]? = some v) {q:Rho} {w':World}
  (hx:Ext (r.QC (st m).next) (st m) w q (st (m+1)) w') (aP:VR q v u) :
  ∃ r',Iv P call K ops e0 vs st r0 w0 a0 D' (m+1) r' (a.put o.dst u) w':=by
 have dz:=(List.getElem?_eq_some_iff.1 ho).1;have nm:∀ {k},Made P ops e0 vs k->k≠m:=fun {k} hk e=>by subst e; exact hk.Lz hne
 have dm:∀ {k},D' k->Made P ops e0 vs k->D k:=fun {k} hk hm=>((hD' k).1 hk).resolve_right (nm hm);have up:∀ {k},Made P ops e0 vs k->m<=k->(st (m+1)).next<=(st k).next:=fun {k} hk hmk=>hp.Vg (by have:=nm hk; omega) (Nat.le_of_lt hk.lt);have hnn:=hx.next
 let r':Rho:=fun i=>if i<(st (m+1)).next then q i else r i
 have sj:∀ {i},i<(st (m+1)).next->r' i=q i:=fun hi=>if_pos hi;have mZ:∀ {i},(st (m+1)).next<=i->r' i=r i:=fun hi=>if_neg (by omega)
 have hle:r.le r':=fun i x hi=>by
  rcases h.known i x hi with g | ⟨k,g1,g2,g3,g4⟩
  ·rw [sj (by omega)];exact hx.le i x (by rw [Rho.Qn g]; exact hi)
  ·have:=up g3 g1;rw [mZ (by omega)];exact hi
 have dO:r'.QC (st (m+1)).next=q:=by
  funext i
  by_cases hi:i<(st (m+1)).next
  ·rw [Rho.Qn hi,sj hi]
  ·rw [Rho.XM (by omega)];exact (hx.rel.Qb (by omega)).symm
 have rV:q.le r':=fun i x hi=>by rw [sj (hx.rel.known i x hi)]; exact hi
 obtain ⟨h1,h2⟩:=h.put hp he0 ho hdi hD hD' hle hv (aP.mono rV);obtain ⟨h3,h4⟩:=YQ h o.dst u;refine ⟨r',h.R0 hr hD',fun i hi => ?_,dz,by rw [dO]; exact h.ext.trans hx,h1,h2,h3,h4,fun k hk ay aC => ?_,fun k l x y hk hl ay hDl aC dR hxk hyl => ?_,fun k ay aC => ?_,fun i x hi => ?_⟩
 ·rw [hD' i,h.Yg i hi];omega
 ·obtain ⟨x,b,ob,g1,g2,g3,g4,g5,g6,g7,g8⟩:=h.early k (by omega) (dm ay aC) aC;have hsz:=(Array.getElem?_eq_some_iff.1 g4).1
  refine ⟨x,b,ob,by rw [mZ (up aC (by omega))]; exact g1,g2,g3.mono (Rho.RZ hle (Nat.le_refl _)),by rw [hx.frame _ hsz g6]; exact g4,g5,?_,g7,by
   rw [dO];intro hh;rcases hx.Wl _ hh with g | g
   ·exact g8 g
   ·omega⟩
  rw [dO];intro hh;rcases hx.XP _ hh with g | g
  ·exact g6 g
  ·omega
 ·rw [mZ (up aC (by omega))] at hxk;rw [mZ (up dR (by omega))] at hyl;exact h.apart k l x y (by omega) (by omega) (dm ay aC) (dm hDl dR) aC dR hxk hyl
 ·obtain ⟨g1,g2⟩:=h.later k (fun g=>ay ((hD' k).2 (.inl g))) aC;have qR:=nm aC;rcases Nat.lt_or_ge k m with hlt | hge
  ·have hkn:=hp.YP hcall aC hlt (Nat.le_of_lt dz);have hn:(r.QC (st m).next) (st k).next=none:=by rw [Rho.Qn hkn]; exact g1
   refine ⟨?_,fun _ d hd=>g2 hlt d (hx.still _ hkn hn d hd)⟩;rw [sj (by omega)];cases e:q (st k).next with
   | none=>rfl
   | some x=>exact absurd (hx.fresh _ hn (by rw [e]; exact fun h=>by cases h)) (by omega)
  ·exact ⟨by rw [mZ (up aC hge)]; exact g1,fun hk=>by omega⟩
 ·by_cases hin:i<(st (m+1)).next
  ·exact .inl hin
  ·rw [mZ (by omega)] at hi;rcases h.known i x hi with g | ⟨k,g1,g2,g3,g4⟩
   ·exact .inl (by omega)
   ·have:=nm g3;exact .inr ⟨k,by omega,(hD' k).2 (.inl g2),g3,g4⟩
theorem Iv.made (hp:Jc X P call K ops e0 vs st) (hcall:Z7 P call) (he0:Qr K r0 e0 a0) (h:Iv P call K ops e0 vs st r0 w0 a0 D m r a w) {j:Nat} {o:Oper} (ho:ops.toList[j]? = some o) (hD:¬ D j)
  (hr:∀ i,XU (Zw ops.toList []) j i->D i) (hD':∀ k,D' k↔D k\/k=j) (hM:Made P ops e0 vs j) (hjm:j≠m) {v:Zb} {u:Value} (hdi:QB K o=true) (hv:vs[j]? = some v) {b:Zd} (hb:st (j+1)=(st j).new b)
  {w':World} {y:RB} {ob:Obj} (hy:y.blk=w.heap.size) (hgn:y.gho=none) (hu:w'.heap[y.blk]? = some ob) (hf:∀ k,k<w.heap.size->w'.heap[k]? = w.heap[k]?) (hs:w.heap.size<=w'.heap.size) (hos:w'.os=w.os) (IP:w'.tape=w.tape)
  (hout:w'.output=w.output) (hbr:BR ((r.QC (st j).next).at (st j).next y) b y ob) (aP:VR ((r.QC (st j).next).at (st j).next y) v u) :
  ∃ r',Iv P call K ops e0 vs st r0 w0 a0 D' m r' (a.put o.dst u) w':=by
 have hjl:=(List.getElem?_eq_some_iff.1 ho).1;have hne:=hM.Lz;obtain ⟨hrn,hst⟩:=h.later j hD hM;have hle:r.le (r.at (st j).next y):=r.JU y hrn;have qh:((r.QC (st j).next).at (st j).next y).le (r.at (st j).next y):=Rho.Ly fun i x hx=>(Rho.Ko hx).2;obtain ⟨h1,h2⟩:=h.put hp he0 ho hdi hD hD' hle hv (aP.mono qh);obtain ⟨h3,h4⟩:=YQ h o.dst u;have hnx:(st (j+1)).next=(st j).next+1:=by rw [hb,St.Qo]
 have hget:(st (j+1)).get (st j).next=some b:=by rw [hb,St.ZC,if_pos rfl]
 have ne:∀ {k},Made P ops e0 vs k->k≠j->(st k).next≠(st j).next:=fun {k} hk hkj e=>hkj (hp.Zg5 hcall hk hM e)
 have Yg:∀ i,Jv P ops i->(D' i↔i<m):=fun i hi=>by
  rw [<- h.Yg i hi,hD' i];exact ⟨fun g=>g.resolve_right fun e=>hne (e▸hi),.inl⟩
 have later:∀ k,¬ D' k->Made P ops e0 vs k->(r.at (st j).next y) (st k).next=none/\(k<m->∀ b,(st m).get (st k).next=some b->(st (k+1)).get (st k).next=some b):=fun k ay aC=>by
  have hkj:k≠j:=fun e=>ay ((hD' k).2 (.inr e));rw [Rho.Zx r y (ne aC hkj)];exact h.later k (fun g=>ay ((hD' k).2 (.inl g))) aC
 have old:∀ {k},m<=k->D k->Made P ops e0 vs k->∃ x c oc,(r.at (st j).next y) (st k).next=some x/\(st (k+1)).get (st k).next=some c/\BR ((r.at (st j).next y).QC ((st k).next+1)) c x oc/\w'.heap[x.blk]? = some oc/\w0.heap.size<=x.blk /\
   ¬ Hit (r.QC (st m).next) (st m) x.blk/\x.blk<w.heap.size/\x.gho=none/\¬ JB (r.QC (st m).next) x.blk:=fun {k} hk ay aC=>by
  obtain ⟨x,c,oc,g1,g2,g3,g4,g5,g6,g7,g8⟩:=h.early k hk ay aC;have hsz:=(Array.getElem?_eq_some_iff.1 g4).1;exact ⟨x,c,oc,hle _ _ g1,g2,g3.mono (Rho.RZ hle (Nat.le_refl _)),by rw [hf _ hsz]; exact g4,g5,g6,hsz,g7,g8⟩
 have hw0:=h.ext.size;rcases Nat.lt_or_ge j m with hlt | hge
 ·have hjn:=hp.YP hcall hM hlt h.le;have ht:(r.at (st j).next y).QC (st m).next=(r.QC (st m).next).at (st j).next y:=Rho.ZaW hjn;have hq:(r.QC (st m).next) (st j).next=none:=by rw [Rho.Qn hjn]; exact hrn
  have bD:=h.ext.born (n:=(st j).next) hq (fun c hc=>by have:=hst hlt c hc; rw [hget] at this; cases this; rfl) hjn (hp.Vg (Nat.zero_le j) (Nat.le_of_lt hjl)) (by omega) hu (hbr.mono (Rho.Ly (Rho.RZ r.le_refl (Nat.le_of_lt hjn)))) hf hs hos IP hout hgn;have dj:∀ {k},m<=k->D' k->D k:=fun {k} hk ay=>((hD' k).1 ay).resolve_right (by omega);refine ⟨_,h.R0 hr hD',Yg,h.le,by rw [ht]; exact bD,h1,h2,h3,h4,fun k hk ay aC => ?_,fun k l x z hk hl ay hDl aC dR hxk hyl => ?_,later,fun i x hx => ?_⟩
  ·obtain ⟨x,c,oc,g1,g2,g3,g4,g5,g6,g7,g8,g9⟩:=old hk (dj hk ay) aC;refine ⟨x,c,oc,g1,g2,g3,g4,g5,?_,g8,by rw [ht]; exact fun hf=>g9 (hf.Yq hgn)⟩;rw [ht];rintro ⟨i,d,z,k1,k2,k3⟩;by_cases hi:i=(st j).next
   ·subst hi;rw [Rho.Zn] at k2;cases k2;omega
   ·rw [Rho.Zx _ y hi] at k2;exact g6 ⟨i,d,z,k1,k2,k3⟩
  ·rw [Rho.Zx r y (ne aC (by omega))] at hxk;rw [Rho.Zx r y (ne dR (by omega))] at hyl;exact h.apart k l x z hk hl (dj hk ay) (dj hl hDl) aC dR hxk hyl
  ·by_cases hi:i=(st j).next
   ·exact .inl (by omega)
   ·rw [Rho.Zx r y hi] at hx;rcases h.known i x hx with g | ⟨k,g1,g2,g3,g4⟩
    ·exact .inl g
    ·exact .inr ⟨k,g1,(hD' k).2 (.inl g2),g3,g4⟩
 ·have iV:=hp.Vg (show m<=j from hge) (Nat.le_of_lt hjl);have ht:(r.at (st j).next y).QC (st m).next=r.QC (st m).next:=Rho.EA iV;refine ⟨_,h.R0 hr hD',Yg,h.le,by rw [ht]; exact h.ext.grow hf hs hos IP hout,h1,h2,h3,h4,fun k hk ay aC => ?_,fun k l x z hk hl ay hDl aC dR hxk hyl => ?_,later,fun i x hx => ?_⟩
  ·rw [ht];by_cases hkj:k=j
   ·subst hkj;refine ⟨y,b,ob,Rho.Zn r _ y,hget,hbr.mono ?_,hu,by omega,fun hh => ?_,hgn,fun ⟨i,z,g,e1,e2,e3,e4⟩ => ?_⟩
    ·rw [Rho.ZaW (Nat.lt_succ_self _)];exact Rho.Ly (Rho.RZ r.le_refl (by omega))
    ·have:=h.ext.rel.lt hh;omega
    ·have:=(h.ext.rel.safe i z g e1 e2).1;omega
   ·obtain ⟨x,c,oc,g1,g2,g3,g4,g5,g6,g7,g8,g9⟩:=old hk (((hD' k).1 ay).resolve_right hkj) aC;exact ⟨x,c,oc,g1,g2,g3,g4,g5,g6,g8,g9⟩
  ·intro hxz;by_cases hkj:k=j <;> by_cases hlj:l=j
   ·omega
   ·subst hkj;rw [Rho.Zn] at hxk;cases hxk;obtain ⟨x',c,oc,g1,g2,g3,g4,g5,g6,g7⟩:=old hl (((hD' l).1 hDl).resolve_right hlj) dR;rw [g1] at hyl;cases hyl;omega
   ·subst hlj;rw [Rho.Zn] at hyl;cases hyl;obtain ⟨x',c,oc,g1,g2,g3,g4,g5,g6,g7⟩:=old hk (((hD' k).1 ay).resolve_right hkj) aC;rw [g1] at hxk;cases hxk;omega
   ·rw [Rho.Zx r y (ne aC hkj)] at hxk;rw [Rho.Zx r y (ne dR hlj)] at hyl;exact h.apart k l x z hk hl (((hD' k).1 ay).resolve_right hkj) (((hD' l).1 hDl).resolve_right hlj) aC dR hxk hyl hxz
  ·by_cases hi:i=(st j).next
   ·exact .inr ⟨j,hge,(hD' j).2 (.inr rfl),hM,hi⟩
   ·rw [Rho.Zx r y hi] at hx;rcases h.known i x hx with g | ⟨k,g1,g2,g3,g4⟩
    ·exact .inl g
    ·exact .inr ⟨k,g1,(hD' k).2 (.inl g2),g3,g4⟩
end
end Ev
end Go.Proofs.YtheflbaejhlboaaGreatDoor
