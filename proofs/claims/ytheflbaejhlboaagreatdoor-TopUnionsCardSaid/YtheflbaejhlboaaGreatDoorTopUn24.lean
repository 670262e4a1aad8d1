/- A part of the proof of a law of package confluencetop: lemmas, no condition of ours. -/
import Derived.Test.YtheflbaejhlboaaGreatDoorTopUn18
import Derived.Test.YtheflbaejhlboaaGreatDoorTopUn7
import Derived.Test.YtheflbaejhlboaaGreatDoorTopUn17
import Derived.Test.YtheflbaejhlboaaGreatDoorTopUn8
import Derived.Test.YtheflbaejhlboaaGreatDoorTopUn14
import Derived.Test.YtheflbaejhlboaaGreatDoorTopUn1
set_option linter.unusedVariables false
set_option linter.unusedSectionVars false
set_option linter.unusedSimpArgs false
namespace Go.Proofs.YtheflbaejhlboaaGreatDoor
open Go
theorem Zt.move {F:Nat→Prop} {w w':World} {v:Value} {l:List Itm} (h:Zt F w v l) (hs:w.heap.size≤w'.heap.size) (hb:∀ k,F k→k<w.heap.size→w'.heap[k]? = w.heap[k]?):Zt F w' v l:=by
 have hc:Chg (fun k=>¬ F k) w { w with heap:=w'.heap }:=⟨rfl,rfl,rfl,hs,fun k hk hn=>hb k (Classical.not_not.1 hn) hk⟩
 have h2:=h.chg hc fun b hF _ hn=>hn hF
 exact h2
theorem Zq.move {F:Nat→Prop} {w w':World} {v:Value} {l:List Vl} (h:Zq F w v l) (hs:w.heap.size≤w'.heap.size) (hb:∀ k,F k→k<w.heap.size→w'.heap[k]? = w.heap[k]?):Zq F w' v l:=by
 have hc:Chg (fun k=>¬ F k) w { w with heap:=w'.heap }:=⟨rfl,rfl,rfl,hs,fun k hk hn=>hb k (Classical.not_not.1 hn) hk⟩
 have h2:=h.chg hc fun b hF _ hn=>hn hF
 exact h2
structure Sm (S:List (List Vl×Int)):Prop where
 set:ZP S
 few:S.length≤1000
 sum:ZJ (Zz S)≤1000000
theorem P4 {l:List Itm} {x:Itm} (h:x∈l):x.a+x.b≤ZJ l:=by
 induction l with
 | nil=>cases h
 | cons y l ih =>
  rw [ZJ]
  rcases List.mem_cons.1 h with rfl | h
  ·omega
  ·have:=ih h; omega
theorem Sm.zr {S:List (List Vl×Int)} (h:Sm S):ZR S:=h.set.zr fun p hp=>by
 have h1:ZI p∈Zz S:=List.mem_map_of_mem hp
 have h2:=P4 h1
 have h3:=h.sum
 unfold ZI at h2
 simp only at h2
 omega
theorem Sm.rows {S:List (List Vl×Int)} (h:Sm S):∀ x∈Zz S,Zl x.row=true:=fun x hx=>by
 obtain ⟨p,hp,rfl⟩:=List.mem_map.1 hx
 exact h.set.row p hp
inductive Mn where
 | set (S:List (List Vl×Int))
 | row (r:List Vl)
 | nz
 | none
def Qx (M:Nat→Mn) (t:Nat) (F:Nat→Prop) (w:World) (v:Value):Prop:=match M t with
 | .set S=>Sm S∧Zt F w v (Zz S)
 | .row r=>Zl r=true∧Zq F w v r
 | .nz=>∃ n:Int,n≠0 ∧ -1000000≤n∧n≤1000000∧v=tn n
 | .none=>False
namespace Ev
section
variable [Sig] {P:Program} {r:Rho} {s:St} {w:World}
theorem Br (hr:Rel r s w) {w':World} {u:Value} {F:Nat→Prop} {t:Nat} (hc:Chg (fun _=>False) w w') (h1:u.oneCell'=true) (h2:∀ b,u ≠ .bool b)
  (hF:∀ k,F k→k<w'.heap.size→JZ r k∨w.heap.size≤k) (hm:Sig.Q6 t F w' u):∃ q,Ext r s w q s.TB w'∧VR q (.gho s.next t) u:=by
 let g:Gh:=⟨u,h1,h2,F,w'⟩
 let x:RB:=⟨0,0,0,some g⟩
 refine ⟨r.at s.next x,Ext.gho hr (fun g' hg => ?_) (fun g' hg k hk hl => ?_) (fun k hk=>hc.block k hk fun h=>h) hc.size hc.os hc.tape hc.output,.gho (Rho.Zo _ _ _) rfl rfl hm⟩
 ·cases hg
  refine ⟨Nat.le_refl _,fun k hk hl=>⟨rfl,fun hh => ?_⟩⟩
  rcases hF k hk hl with ⟨i,y,g',e1,e2,e3,e4⟩ | h3
  ·exact ((hr.safe i y g' e1 e2).2 k e3 e4).2 hh
  ·have:=hr.lt hh; omega
 ·cases hg
  exact hF k hk hl
theorem Bs (hr:Rel r s w) {id t:Nat} {u:Value} (h:VR r (.gho id t) u):∃ (F:Nat→Prop) (w0:World),Sig.Q6 t F w0 u∧w0.heap.size≤w.heap.size∧(∀ k,F k→k<w0.heap.size→w.heap[k]? = w0.heap[k]? ∧ JZ r k):=by
 cases h with
 | gho hx hg hu hm =>
  rename_i x g
  subst hu
  obtain ⟨h1,h2⟩:=hr.safe _ _ _ hx hg
  exact ⟨g.Gi,g.made,hm,h1,fun k hk hl=>⟨(h2 k hk hl).1,_,_,_,hx,hg,hk,hl⟩⟩
variable {M:Nat→Mn} (hM:Sig.Q6=Qx M)
include hM
theorem Ja (hr:Rel r s w) {id t:Nat} {u:Value} (h:VR r (.gho id t) u) {S:List (List Vl×Int)} (hS:M t = .set S):Sm S∧Zt (JZ r) w u (Zz S):=by
 obtain ⟨F,w0,h1,h2,h3⟩:=Bs hr h
 rw [hM] at h1
 unfold Qx at h1
 rw [hS] at h1
 exact ⟨h1.1,((h1.2.mono (G:=fun b=>F b∧b<w0.heap.size) fun b hb hl=>⟨hb,hl⟩).move h2 fun k hk hl=>(h3 k hk.1 hl).1).mono fun b hb _=>(h3 b hb.1 hb.2).2⟩
theorem Hg (hr:Rel r s w) {id t:Nat} {u:Value} (h:VR r (.gho id t) u) {l:List Vl} (hl:M t = .row l):Zl l=true∧Zq (JZ r) w u l:=by
 obtain ⟨F,w0,h1,h2,h3⟩:=Bs hr h
 rw [hM] at h1
 unfold Qx at h1
 rw [hl] at h1
 exact ⟨h1.1,((h1.2.mono (G:=fun b=>F b∧b<w0.heap.size) fun b hb hl=>⟨hb,hl⟩).move h2 fun k hk hl=>(h3 k hk.1 hl).1).mono fun b hb _=>(h3 b hb.1 hb.2).2⟩
theorem Tk (hr:Rel r s w) {w':World} {u:Value} {F:Nat→Prop} {t:Nat} {S:List (List Vl×Int)} (hc:Chg (fun _=>False) w w') (hF:∀ k,F k→k<w'.heap.size→JZ r k∨w.heap.size≤k) (hS:M t = .set S) (hs:Sm S) (hu:Zt F w' u (Zz S)) :
  ∃ q,Ext r s w q s.TB w'∧VR q (.gho s.next t) u:=by
 have hm:Sig.Q6 t F w' u:=by
  rw [hM]
  unfold Qx
  rw [hS]
  exact ⟨hs,hu⟩
 obtain ⟨A,c,rfl,_⟩:=hu
 exact Br hr hc rfl (fun b h=>by cases h) hF hm
end
theorem Jk {P:Program} {f:FuncId} {fn:Func} {b:Code} (hf:P.funcs[f]? = some fn) (hname:(fn.name== "runtime.NumGoroutine")=false) (hb:fn.body=some b) {us:Array Value} {w:World} {R:Value→World→Prop}
  (h:Calls P f us w fun e w'=>∃ u,e = .returned u∧R u w'):Xt P f us w R:=by
 have hname':fn.name≠ "runtime.NumGoroutine":=by simpa using hname
 exact .inr ⟨by simp [callFunc,hf,hname',hb],h⟩
noncomputable section
def ZbD (s:St) (o:Option Nat):R:=match o with
 | some c => .ok (.tuple [.gho s.next c,.int .i64 (.ofNat 0)]) s.TB
 | none => .bad
def ZfN (T:Nat→Nat→Option Nat) (args:List Zc) (s:St):R:=match args with
 | [.gho _ a,.gho _ b]=>ZbD s (T a b)
 | _ => .bad
def ZiJ (T:Nat→Nat→Option Nat):Orc:=⟨ZfN T⟩
def ZhP (s:St) (o:Option Nat):R:=match o with
 | some c => .ok (.gho s.next c) s.TB
 | none => .bad
def ZfO (T:Nat→Option Nat) (args:List Zc) (s:St):R:=match args with
 | [.gho _ a]=>ZhP s (T a)
 | _ => .bad
def ZbE (T:Nat→Option Nat):Orc:=⟨ZfO T⟩
end
section
variable [Sig] {M:Nat→Mn} (hM:Sig.Q6=Qx M)
include hM
theorem UM {T:Nat→Nat→Option Nat} (hT:∀ a b c,T a b=some c→∃ S S' S'',M a = .set S∧M b = .set S'∧M c = .set S''∧Sm S''∧∀ r,nf S'' r=nf S r+nf S' r)
  {fn:Func} {b:Code} (hf:Tryz.prog.funcs[112]? = some fn) (hname:(fn.name== "runtime.NumGoroutine")=false) (hb:fn.body=some b):Z4 Tryz.prog 112 (ZiJ T):=by
 intro args s v s' h r w us hr hv
 have h:ZfN T args s = .ok v s':=h
 unfold ZfN at h
 split at h
 ·rename_i i a j b' _
  cases hv with
  | cons hx ht=>cases ht with
   | cons hy ht =>
    cases ht
    rename_i u1 u2
    cases hc:T a b' with
    | none=>rw [hc] at h; cases h
    | some c =>
     rw [hc] at h
     cases h
     obtain ⟨S,S',S'',m1,m2,m3,hs,hnf⟩:=hT a b' c hc
     obtain ⟨z1,a1⟩:=Ja hM hr hx m1
     obtain ⟨z2,a2⟩:=Ja hM hr hy m2
     refine Jk hf hname hb ((P5 a1 a2 (by rw [ZU]; have:=z1.few; omega) (by rw [ZU]; have:=z2.few; omega) z1.rows z2.rows (by have:=z1.sum; have:=z2.sum; omega)).mono ?_)
     rintro _ w' ⟨u,S3,rfl,hz,h3,_,h4,h5⟩
     have:S3=S'':=ZP.uniq hz hs.set fun r=>by rw [h3,X4,TV,TV,hnf]
     subst this
     obtain ⟨q,e1,e2⟩:=Tk hM hr h5 (fun k hk _ => .inr hk) m3 hs h4
     exact ⟨_,rfl,q,e1,.tuple (.cons e2 (.cons (.int _ _) .nil))⟩
 ·cases h
end
end Ev
end Go.Proofs.YtheflbaejhlboaaGreatDoor
namespace Go.Proofs.YtheflbaejhlboaaGreatDoor
open Go
theorem Tl (S:List (List Vl×Int)) (r:List Vl):nf (Xq S) r = - nf S r:=by
 induction S with
 | nil=>rfl
 | cons p S ih =>
  show nf ((p.1,-p.2)::Xq S) r=_
  rw [nf,nf,ih]
  split <;> omega
theorem UN (S:List (List Vl×Int)):ZJ (Zz (Xq S))=ZJ (Zz S):=by
 induction S with
 | nil=>rfl
 | cons p S ih =>
  show ZJ (ZI (p.1,-p.2)::Zz (Xq S))=ZJ (ZI p::Zz S)
  rw [ZJ,ZJ,ih]
  unfold ZI
  simp only
  omega
theorem Sm.flip {S:List (List Vl×Int)} (h:Sm S):Sm (Xq S) where
 set:=by
  refine ⟨fun p hp => ?_,fun p hp => ?_,?_⟩
  ·obtain ⟨q,hq,rfl⟩:=List.mem_map.1 hp
   exact h.set.row q hq
  ·obtain ⟨q,hq,rfl⟩:=List.mem_map.1 hp
   have:=h.set.net q hq
   simp only
   omega
  ·unfold Xq
   rw [List.pairwise_map]
   exact h.set.ord
 few:=by unfold Xq; rw [List.length_map]; exact h.few
 sum:=by rw [UN]; exact h.sum
theorem TW (lim:Int):∀ (l:List Itm) (n:Int),n+ZJ l<lim→XF lim l n=false
 | [],_,_=>rfl
 | x::l,n,h=>by
  rw [ZJ] at h
  have hx:x.net≤(x.a:Int):=by unfold Itm.net; omega
  rw [XF,if_neg (by omega)]
  exact TW lim l _ (by omega)
namespace Ev
noncomputable section
def ZhQ (s:St) (o:Option Bool):R:=match o with
 | some b => .ok (.bool b) s
 | none => .bad
def ZbF (T:Nat→Option Bool) (args:List Zc) (s:St):R:=match args with
 | [.gho _ a]=>ZhQ s (T a)
 | _ => .bad
def Tm (T:Nat→Option Bool):Orc:=⟨ZbF T⟩
end
section
variable [Sig] {M:Nat→Mn} (hM:Sig.Q6=Qx M)
theorem Ext.same {r:Rho} {s:St} {w w':World} (hr:Rel r s w) (hc:Chg (fun _=>False) w w'):Ext r s w r s w' :=
 (Ext.refl hr).grow (fun k hk=>hc.block k hk fun h=>h) hc.size hc.os hc.tape hc.output
include hM
theorem NF {f:FuncId} {T:Nat→Option Nat} (hT:∀ a c,T a=some c→∃ S S',M a = .set S∧M c = .set S'∧Sm S' ∧
   ∀ (F:Nat→Prop) (w:World) (v:Value),Sm S→Zt F w v (Zz S)→Calls Tryz.prog f #[v] w (Neu w fun u w'=>Zt (new w) w' u (Zz S')))
  {fn:Func} {b:Code} (hf:Tryz.prog.funcs[f]? = some fn) (hname:(fn.name== "runtime.NumGoroutine")=false) (hb:fn.body=some b):Z4 Tryz.prog f (ZbE T):=by
 intro args s v s' h r w us hr hv
 have h:ZfO T args s = .ok v s':=h
 unfold ZfO at h
 split at h
 ·rename_i i a _
  cases hv with
  | cons hx ht =>
   cases ht
   cases hc:T a with
   | none=>rw [hc] at h; cases h
   | some c =>
    rw [hc] at h
    cases h
    obtain ⟨S,S',m1,m2,hs,hcall⟩:=hT a c hc
    obtain ⟨z1,a1⟩:=Ja hM hr hx m1
    refine Jk hf hname hb ((hcall _ _ _ z1 a1).mono ?_)
    rintro _ w' ⟨u,rfl,h4,h5⟩
    obtain ⟨q,e1,e2⟩:=Tk hM hr h5 (fun k hk _ => .inr hk) m2 hs h4
    exact ⟨_,rfl,q,e1,e2⟩
 ·cases h
theorem We {f:FuncId} {T:Nat→Option Bool} (hT:∀ a c,T a=some c→∃ S,M a = .set S ∧
   ∀ (F:Nat→Prop) (w:World) (v:Value),Sm S→Zt F w v (Zz S)→Calls Tryz.prog f #[v] w fun e w'=>e = .returned (.bool c)∧Chg (fun _=>False) w w')
  {fn:Func} {b:Code} (hf:Tryz.prog.funcs[f]? = some fn) (hname:(fn.name== "runtime.NumGoroutine")=false) (hb:fn.body=some b):Z4 Tryz.prog f (Tm T):=by
 intro args s v s' h r w us hr hv
 have h:ZbF T args s = .ok v s':=h
 unfold ZbF at h
 split at h
 ·rename_i i a _
  cases hv with
  | cons hx ht =>
   cases ht
   cases hc:T a with
   | none=>rw [hc] at h; cases h
   | some c =>
    rw [hc] at h
    cases h
    obtain ⟨S,m1,hcall⟩:=hT a c hc
    obtain ⟨z1,a1⟩:=Ja hM hr hx m1
    refine Jk hf hname hb ((hcall _ _ _ z1 a1).mono ?_)
    rintro _ w' ⟨rfl,h5⟩
    exact ⟨_,rfl,r,Ext.same hr h5,.bool _⟩
 ·cases h
theorem D6 {T:Nat→Option Nat} (hT:∀ a c,T a=some c→∃ S S',M a = .set S∧M c = .set S'∧Sm S∧Sm S'∧∀ r,nf S' r = - nf S r)
  {fn:Func} {b:Code} (hf:Tryz.prog.funcs[113]? = some fn) (hname:(fn.name== "runtime.NumGoroutine")=false) (hb:fn.body=some b):Z4 Tryz.prog 113 (ZbE T) :=
 NF hM (fun a c h=>by
  obtain ⟨S,S',m1,m2,hs1,hs,h1⟩:=hT a c h
  have e:S'=Xq S:=ZP.uniq hs.set hs1.flip.set fun r=>by rw [h1,Tl]
  exact ⟨S,S',m1,m2,hs,fun F w v hz ha=>by subst e; exact Ft ha hz.zr (by have:=hz.few; omega)⟩) hf hname hb
theorem D7 {T:Nat→Option Nat} (hT:∀ a c,T a=some c→∃ S,M a = .set S∧M c = .set S∧Sm S)
  {fn:Func} {b:Code} (hf:Tryz.prog.funcs[40]? = some fn) (hname:(fn.name== "runtime.NumGoroutine")=false) (hb:fn.body=some b):Z4 Tryz.prog 40 (ZbE T) :=
 NF hM (fun a c h=>by
  obtain ⟨S,m1,m2,hs⟩:=hT a c h
  exact ⟨S,S,m1,m2,hs,fun F w v hz ha=>H7 ha (by rw [ZU]; have:=hz.few; omega)⟩) hf hname hb
theorem Fu {T:Nat→Option Bool} (hT:∀ a c,T a=some c→c=true∧∃ S,M a = .set S)
  {fn:Func} {b:Code} (hf:Tryz.prog.funcs[172]? = some fn) (hname:(fn.name== "runtime.NumGoroutine")=false) (hb:fn.body=some b):Z4 Tryz.prog 172 (Tm T) :=
 We hM (fun a c h=>by
  obtain ⟨rfl,S,m1⟩:=hT a c h
  exact ⟨S,m1,fun F w v hz ha=>XA ha hz.zr⟩) hf hname hb
theorem Fv {T:Nat→Option Bool} (hT:∀ a c,T a=some c→c=true∧∃ S,M a = .set S∧∀ p∈S,0≤p.2)
  {fn:Func} {b:Code} (hf:Tryz.prog.funcs[161]? = some fn) (hname:(fn.name== "runtime.NumGoroutine")=false) (hb:fn.body=some b):Z4 Tryz.prog 161 (Tm T) :=
 We hM (fun a c h=>by
  obtain ⟨rfl,S,m1,h1⟩:=hT a c h
  exact ⟨S,m1,fun F w v hz ha=>Ha ha hz.zr h1⟩) hf hname hb
theorem Fw {T:Nat→Option Bool} (hT:∀ a c,T a=some c→c=false∧∃ S,M a = .set S∧ZJ (Zz S)<513)
  {fn:Func} {b:Code} (hf:Tryz.prog.funcs[183]? = some fn) (hname:(fn.name== "runtime.NumGoroutine")=false) (hb:fn.body=some b):Z4 Tryz.prog 183 (Tm T) :=
 We hM (fun a c h=>by
  obtain ⟨rfl,S,m1,h1⟩:=hT a c h
  exact ⟨S,m1,fun F w v hz ha=>by
   have h2:=H6 ha (by rw [ZU]; have:=hz.few; omega)
   rw [TW _ _ _ (by omega)] at h2
   exact h2⟩) hf hname hb
theorem Fx {T:Nat→Option Bool} (hT:∀ a c,T a=some c→c=false∧∃ S,M a = .set S∧ZJ (Zz S)<64)
  {fn:Func} {b:Code} (hf:Tryz.prog.funcs[167]? = some fn) (hname:(fn.name== "runtime.NumGoroutine")=false) (hb:fn.body=some b):Z4 Tryz.prog 167 (Tm T) :=
 We hM (fun a c h=>by
  obtain ⟨rfl,S,m1,h1⟩:=hT a c h
  exact ⟨S,m1,fun F w v hz ha=>by
   have h2:=H5 ha (by rw [ZU]; have:=hz.few; omega)
   rw [TW _ _ _ (by omega)] at h2
   exact h2⟩) hf hname hb
end
end Ev
end Go.Proofs.YtheflbaejhlboaaGreatDoor
namespace Go.Proofs.YtheflbaejhlboaaGreatDoor
open Go
namespace Ev
noncomputable section
def isK (v:V) (k:Int):Bool:=match v with
 | .ok (.int .i64 n)=>ieq n k
 | _=>false
def Sp (cs:List Zc):Nat→List Int→Bool
 | _,[]=>true
 | off,k::ks=>sel (isK (Yy (off+1) cs) k) (Sp cs (off+2) ks) false
def ZbG (off:Nat) (ks:List Int) (c:Cs):Bool:=match c with
 | .mk cs _ _=>Sp cs off ks
 | .bad=>false
def Wf (s:St) (ks:List Int) (v:Zc):Bool:=match v with
 | .slice id off n _=>sel (Nat.beq n ks.length) (ZbG off ks (s.ZQ id)) false
 | _=>false
def ZiK (b:Bool) (s:St):R:=sel b (.ok (.bool true) s) .bad
def ZbH (K:Nat→Option (List Int)) (args:List Zc) (s:St):R:=match args with
 | [c,.gho _ t]=>(match K t with
  | some ks=>ZiK (Wf s ks c) s
  | none => .bad)
 | _ => .bad
def ZeD (K:Nat→Option (List Int)):Orc:=⟨ZbH K⟩
def cellAt (s:St) (id off:Nat):V:=match s.ZQ id with
 | .mk cs _ _=>Yy off cs
 | .bad => .bad
def ZbI (s:St) (ks:List Int) (v:V):Bool:=match v with
 | .ok c=>Wf s ks c
 | .bad=>false
def ZeE (b:Bool) (s:St):R:=sel b (.ok (.bool false) s) .bad
def ZhR (s:St) (ks:List Int) (n:V) (d:V):Bool:=match n,d with
 | .ok (.int .i64 (.ofNat n)),.ok (.slice id off m _)=>sel (Nat.blt n m) (sel (Nat.ble m 1000000) (ZbI s ks (cellAt s id (off+n*2+1))) false) false
 | _,_=>false
def ZfP (s:St) (ks:List Int) (nb:Nat) (g:V):Bool:=match g with
 | .ok (.ptr gb 0)=>ZhR s ks (cellAt s nb 0) (cellAt s gb 1)
 | _=>false
def ZfQ (f1 f2:Nat) (K:Nat→Option (List Int)) (args:List Zc) (s:St):R:=match args with
 | [.gho _ t,.func f [] [.ptr tb 0]]=>(match K t with
  | some ks=>sel (Nat.beq f f1) (ZeE (ZbI s ks (cellAt s tb 1)) s) .bad
  | none => .bad)
 | [.gho _ t,.func f [] [.ptr fb 0,.ptr nb 0]]=>(match K t with
  | some ks=>sel (Nat.beq f f2) (ZeE (ZfP s ks nb (cellAt s fb 0)) s) .bad
  | none => .bad)
 | _ => .bad
def ZhS (f1 f2:Nat) (K:Nat→Option (List Int)):Orc:=⟨ZfQ f1 f2 K⟩
end
section
variable [Sig] {r:Rho} {s:St} {w:World}
theorem Bt (hr:Rel r s w) {id i:Nat} {x:RB} (hx:r id=some x) {cs:List Zc} {e:Nat} {o:Bool} (hc:s.ZQ id = .mk cs e o) {v:Zc} (hv:Yy i cs = .ok v):∃ u,w.cell? ⟨x.blk,i,none⟩=some u∧VR r v u:=by
 obtain ⟨ob,h1,h2⟩:=hr.block id _ x (ZL hc) hx
 obtain ⟨_,vs,rest,t,fr,rfl,h3,_,_,_⟩:=h2
 obtain ⟨u,h4,h5⟩:=h3.get (YK i hv)
 refine ⟨u,?_,h5⟩
 rw [cell_of_row w x.blk i _ t fr h1]
 have:=(List.getElem?_eq_some_iff.1 h4).1
 simp only [List.getElem?_toArray]
 rw [List.getElem?_append_left this]
 exact h4
theorem Z8 (hr:Rel r s w) {id i:Nat} {v:Zc} (h:cellAt s id i = .ok v) {x:RB} (hx:r id=some x):∃ u,w.cell? ⟨x.blk,i,none⟩=some u∧VR r v u:=by
 unfold cellAt at h
 split at h
 ·rename_i cs e o hc
  exact Bt hr hx hc h
 ·cases h
theorem P6:∀ {cs:List Zc} {ks:List Int} {off:Nat},Sp cs off ks=true→∀ j k,ks[j]? = some k→Yy (off+j*2+1) cs = .ok (.int .i64 k)
 | cs,[],_,_,j,k,hk=>by simp at hk
 | cs,k0::ks,off,h,j,k,hk=>by
  rcases Ze (show sel (isK (Yy (off+1) cs) k0) (Sp cs (off+2) ks) false=true from h) with ⟨h1,h2⟩ | ⟨_,h2⟩
  ·cases j with
   | zero =>
    simp at hk
    subst hk
    unfold isK at h1
    split at h1
    ·rename_i n hn
     rw [QC] at h1
     rw [Nat.zero_mul,Nat.add_zero,hn,eq_of_beq h1]
    ·cases h1
   | succ j =>
    have:=P6 h2 j k (by simpa using hk)
    rwa [show off+2+j*2+1=off+(j+1)*2+1 by omega] at this
  ·cases h2
theorem Wg (hr:Rel r s w) {ks:List Int} {v:Zc} {u:Value} (hv:VR r v u) (h:Wf s ks v=true):Vb w u ks:=by
 unfold Wf at h
 split at h
 ·rename_i id off n c
  rcases Ze h with ⟨h1,h2⟩ | ⟨_,h2⟩
  ·have h1:=Nat.eq_of_beq_eq_true h1
   subst h1
   unfold ZbG at h2
   split at h2
   ·rename_i cs e o hc
    cases hv with
    | slice hx hn hcc hu =>
     rename_i x cap
     refine ⟨_,_,rfl,fun _=>⟨x.blk,off,rfl,fun j k hk => ?_⟩⟩
     obtain ⟨u,h3,h4⟩:=Bt hr hx hc (P6 h2 j k hk)
     cases h4
     exact h3
   ·cases h2
  ·cases h2
 ·cases h
theorem Bu (hr:Rel r s w) {ks:List Int} {v:V} (h:ZbI s ks v=true):∃ c,v = .ok c∧Wf s ks c=true:=by
 unfold ZbI at h
 split at h
 ·exact ⟨_,rfl,h⟩
 ·cases h
variable {M:Nat→Mn} (hM:Sig.Q6=Qx M)
theorem Xb {r:List Vl} (h:Zl r=true):(∀ x∈r,x.right=true)∧r.length≤1000000:=by
 unfold Zl at h
 simp only [Bool.and_eq_true,decide_eq_true_eq,Bool.not_eq_true',List.any_eq_false] at h
 exact ⟨fun x hx=>by simpa using h.2 x hx,by omega⟩
include hM
theorem D8 {K:Nat→Option (List Int)} (hK:∀ t ks,K t=some ks→∃ l,M t = .row l∧l.map (·.k)=ks)
  {fn:Func} {b:Code} (hf:Tryz.prog.funcs[164]? = some fn) (hname:(fn.name== "runtime.NumGoroutine")=false) (hb:fn.body=some b):Z4 Tryz.prog 164 (ZeD K):=by
 intro args s v s' h r w us hr hv
 have h:ZbH K args s = .ok v s':=h
 unfold ZbH at h
 split at h
 ·rename_i c i t _
  cases hv with
  | cons hx ht=>cases ht with
   | cons hy ht =>
    cases ht
    split at h
    ·rename_i ks hk
     obtain ⟨l,m1,rfl⟩:=hK _ _ hk
     rcases Ze h with ⟨h1,h⟩ | ⟨_,h⟩
     ·cases h
      obtain ⟨z1,a1⟩:=Hg hM hr hy m1
      obtain ⟨z2,z3⟩:=Xb z1
      refine Jk hf hname hb ((Wh (Wg hr hx h1) a1 z2 z3).mono ?_)
      rintro _ w' ⟨rfl,h5⟩
      exact ⟨_,rfl,r,Ext.same hr h5,.bool _⟩
     ·cases h
    ·cases h
 ·cases h
theorem UO {K:Nat→Option (List Int)} (hK:∀ t ks,K t=some ks→∃ S,M t = .set S∧∀ p∈S,p.1.map (·.k)=ks)
  {fn:Func} {b:Code} (hf:Tryz.prog.funcs[162]? = some fn) (hname:(fn.name== "runtime.NumGoroutine")=false) (hb:fn.body=some b)
  (e1:∀ args W,(callFunc 163 args).run Tryz.prog W = .ok (.enter 163 args) W)
  (e2:∀ args W,(callFunc 175 args).run Tryz.prog W = .ok (.enter 175 args) W) :
  Z4 Tryz.prog 162 (ZhS 163 175 K):=by
 intro args s v s' h r w us hr hv
 have h:ZfQ 163 175 K args s = .ok v s':=h
 unfold ZfQ at h
 split at h
 ·rename_i i t f tb _
  cases hv with
  | cons hx ht=>cases ht with
   | cons hy ht =>
    cases ht
    split at h
    ·rename_i ks hk
     obtain ⟨S,m1,hks⟩:=hK _ _ hk
     rcases Ze h with ⟨hff,h⟩ | ⟨_,h⟩
     ·have hff:=Nat.eq_of_beq_eq_true hff
      subst hff
      rcases Ze (show sel (ZbI s ks (cellAt s tb 1)) (.ok (.bool false) s) .bad=R.ok v s' from h) with ⟨h1,h⟩ | ⟨_,h⟩
      ·cases h
       obtain ⟨c,h2,h3⟩:=Bu hr h1
       obtain ⟨z1,a1⟩:=Ja hM hr hx m1
       cases hy with
       | func _ ha hb2 =>
        cases ha
        cases hb2 with
        | cons hp ht =>
         cases ht
         cases hp with
         | ptr hp =>
          rename_i x
          obtain ⟨u,h4,h5⟩:=Z8 hr h2 hp
          have hcols:=Wg hr h5 h3
          refine Jk hf hname hb ((Ko e1 a1 fun rv y W hy hrow _ _ hW => ?_).mono ?_)
          ·obtain ⟨p,hp',rfl⟩:=List.mem_map.1 hy
           obtain ⟨z2,z3⟩:=Xb (z1.set.row p hp')
           refine Hh (hW.cell h4 fun h=>h) ?_ (hrow.Zi hW) z2 z3
           have:=hcols.Zi hW
           rw [← hks p hp'] at this
           exact this
          ·rintro _ w' ⟨rfl,h5⟩
           exact ⟨_,rfl,r,Ext.same hr h5,.bool _⟩
      ·cases h
     ·cases h
    ·cases h
 ·rename_i i t f fb nb _
  cases hv with
  | cons hx ht=>cases ht with
   | cons hy ht =>
    cases ht
    split at h
    ·rename_i ks hk
     obtain ⟨S,m1,hks⟩:=hK _ _ hk
     rcases Ze h with ⟨hff,h⟩ | ⟨_,h⟩
     ·have hff:=Nat.eq_of_beq_eq_true hff
      subst hff
      rcases Ze (show sel (ZfP s ks nb (cellAt s fb 0)) (.ok (.bool false) s) .bad=R.ok v s' from h) with ⟨h1,h⟩ | ⟨_,h⟩
      ·cases h
       obtain ⟨z1,a1⟩:=Ja hM hr hx m1
       unfold ZfP at h1
       split at h1
       ·rename_i gb hgb
        unfold ZhR at h1
        split at h1
        ·rename_i N id off m c hn hd
         rcases Ze h1 with ⟨g1,h1⟩ | ⟨_,h1⟩
         ·rcases Ze h1 with ⟨g2,h1⟩ | ⟨_,h1⟩
          ·obtain ⟨c,h2,h3⟩:=Bu hr h1
           cases hy with
           | func _ ha hb2 =>
            cases ha
            cases hb2 with
            | cons hp ht=>cases ht with
             | cons hp2 ht =>
              cases ht
              cases hp with
              | ptr hp =>
               cases hp2 with
               | ptr hp2 =>
                rename_i x x2
                obtain ⟨u1,k1,k2⟩:=Z8 hr hgb hp
                cases k2 with
                | ptr hg =>
                 obtain ⟨u2,k3,k4⟩:=Z8 hr hd hg
                 obtain ⟨u3,k5,k6⟩:=Z8 hr hn hp2
                 cases k6
                 cases k4 with
                 | slice hdx hdn hdc hdu =>
                  obtain ⟨u4,k7,k8⟩:=Z8 hr h2 hdx
                  have hcols:=Wg hr k8 h3
                  refine Jk hf hname hb ((Ko e2 a1 fun rv y W hy hrow _ _ hW => ?_).mono ?_)
                  ·obtain ⟨p,hp',rfl⟩:=List.mem_map.1 hy
                   obtain ⟨z2,z3⟩:=Xb (z1.set.row p hp')
                   refine MG (hW.cell k1 fun h=>h) (hW.cell k3 fun h=>h) (hW.cell k5 fun h=>h) (Qy g1) (Z6 g2) (hW.cell k7 fun h=>h) ?_ (hrow.Zi hW) z2 z3
                   have:=hcols.Zi hW
                   rw [← hks p hp'] at this
                   exact this
                  ·rintro _ w' ⟨rfl,h5⟩
                   exact ⟨_,rfl,r,Ext.same hr h5,.bool _⟩
          ·cases h1
         ·cases h1
        ·cases h1
       ·cases h1
      ·cases h
     ·cases h
    ·cases h
 ·cases h
end
end Ev
end Go.Proofs.YtheflbaejhlboaaGreatDoor
namespace Go.Proofs.YtheflbaejhlboaaGreatDoor
open Go
theorem Zdt:fl 0=0:=by kernel_rfl
theorem ZhT:fl 1=4607182418800017408:=by kernel_rfl
namespace Ev
noncomputable section
def ZbJ (v:V):Option Bool:=match v with
 | .ok (.ZW .f64 a b)=>sel (Nat.beq a 4607182418800017408) (sel (Nat.beq b 0) (some true) none) (sel (Nat.beq a 0) (sel (Nat.beq b 4607182418800017408) (some false) none) none)
 | _=>none
def D9 (v:V):Option Nat:=match v with
 | .ok (.gho _ t)=>some t
 | _=>none
def ZhU (T:Nat→Nat→Bool→Option Nat) (s:St) (a:Nat) (t:Option Nat) (b:Option Bool):R:=match t,b with
 | some t,some b=>ZbD s (T a t b)
 | _,_ => .bad
def ZbK (s:St) (id:Nat) (c:Option Nat):Bool:=match c,s.ZQ id with
 | some c,_=>Nat.ble c 1000
 | none,.mk cs e o=>sel o false (sel (Nat.beq e 0) false (Nat.ble cs.length 1000))
 | _,_=>false
def ZbL (T:Nat→Nat→Option Nat) (T1:Nat→Nat→Bool→Option Nat) (args:List Zc) (s:St):R:=match args with
 | [.gho _ a,.gho _ b]=>ZbD s (T a b)
 | [.gho _ a,.slice id off 1 c]=>sel (ZbK s id c) (ZhU T1 s a (D9 (cellAt s id off)) (ZbJ (cellAt s id (off+1)))) .bad
 | _ => .bad
def ZeF (T:Nat→Nat→Option Nat) (T1:Nat→Nat→Bool→Option Nat):Orc:=⟨ZbL T T1⟩
end
theorem ZbM {v:V} {b:Bool} (h:ZbJ v=some b):v = .ok (.ZW .f64 (fl (if b then 1 else 0)) (fl (if b then 0 else 1))):=by
 unfold ZbJ at h
 split at h
 ·rcases Ze h with ⟨h1,h⟩ | ⟨_,h⟩
  ·rcases Ze h with ⟨h2,h⟩ | ⟨_,h⟩
   ·cases h
    rw [Nat.eq_of_beq_eq_true h1,Nat.eq_of_beq_eq_true h2]
    simp only [if_true,Zdt,ZhT]
   ·cases h
  ·rcases Ze h with ⟨h1,h⟩ | ⟨_,h⟩
   ·rcases Ze h with ⟨h2,h⟩ | ⟨_,h⟩
    ·cases h
     rw [Nat.eq_of_beq_eq_true h1,Nat.eq_of_beq_eq_true h2]
     simp only [Bool.false_eq_true,if_false,Zdt,ZhT]
    ·cases h
   ·cases h
 ·cases h
theorem UP {v:V} {t:Nat} (h:D9 v=some t):∃ i,v = .ok (.gho i t):=by
 unfold D9 at h
 split at h
 ·cases h; exact ⟨_,rfl⟩
 ·cases h
section
theorem ZbN [Sig] {r:Rho} {s:St} {w:World} (hr:Rel r s w) {id off n cap:Nat} {c:Option Nat} {x:RB} (hx:r id=some x) (hc:∀ k,c=some k→cap=k) (hu:c=none→off+cap*x.esz=x.size) (h:ZbK s id c=true):cap≤1000:=by
 unfold ZbK at h
 split at h
 ·rw [hc _ rfl]
  exact Z6 h
 ·rename_i cs e o hb
  obtain ⟨ob,h1,h2⟩:=hr.block id _ x (ZL hb) hx
  obtain ⟨rfl,vs,rest,t,fr,rfl,h3,h4,h5,_⟩:=h2
  cases o with
  | true=>cases h
  | false =>
   have h:sel (Nat.beq x.esz 0) false (Nat.ble cs.length 1000)=true:=h
   rcases Ze h with ⟨_,h⟩ | ⟨g,h⟩
   ·cases h
   ·have h6:=Z6 h
    have h7:=h5 rfl
    subst h7
    have h8:=h3.length
    rw [List.append_nil] at h4
    have h9:=hu rfl
    have h10:x.esz≠0:=fun e=>by rw [e] at g; cases g
    have h11:cap*1≤cap*x.esz:=Nat.mul_le_mul_left _ (by omega)
    omega
 ·cases h
variable [Sig] {M:Nat→Mn} (hM:Sig.Q6=Qx M)
include hM
theorem Ca {T:Nat→Nat→Option Nat} {T1:Nat→Nat→Bool→Option Nat} (hT:∀ a b c,T a b=some c→∃ S S' S'',M a = .set S∧M b = .set S'∧M c = .set S''∧Sm S''∧∀ r,nf S'' r=nf S r+nf S' r)
  (hT1:∀ a t b c,T1 a t b=some c→∃ S l S'',M a = .set S∧M t = .row l∧M c = .set S''∧Sm S''∧∀ r,nf S'' r=nf S r+if l=r then (if b then 1 else -1) else 0)
  {fn:Func} {b:Code} (hf:Tryz.prog.funcs[112]? = some fn) (hname:(fn.name== "runtime.NumGoroutine")=false) (hb:fn.body=some b):Z4 Tryz.prog 112 (ZeF T T1):=by
 intro args s v s' h r w us hr hv
 have h0:ZbL T T1 args s = .ok v s':=h
 unfold ZbL at h0
 split at h0
 ·rename_i _ i a j b'
  exact UM hM hT hf hname hb [.gho i a,.gho j b'] s v s' h0 r w us hr hv
 ·rename_i _ i a id off cc
  rcases Ze h0 with ⟨g1,h0⟩ | ⟨_,h0⟩
  ·cases hv with
   | cons hx ht=>cases ht with
    | cons hy ht =>
     cases ht
     unfold ZhU at h0
     split at h0
     ·rename_i t sd hts hsd
      cases hc:T1 a t sd with
      | none=>rw [hc] at h0; cases h0
      | some c =>
       rw [hc] at h0
       cases h0
       obtain ⟨S,l,S'',m1,m2,m3,hs,hnf⟩:=hT1 a t sd c hc
       obtain ⟨z1,a1⟩:=Ja hM hr hx m1
       obtain ⟨ti,hti⟩:=UP hts
       have hsd:=ZbM hsd
       cases hy with
       | slice hdx hdn hdc hdu =>
        rename_i x cap
        have hcc:=ZbN (n:=1) hr hdx hdc hdu g1
        obtain ⟨u1,k1,k2⟩:=Z8 hr hti hdx
        obtain ⟨u2,k3,k4⟩:=Z8 hr hsd hdx
        cases k4
        obtain ⟨z2,a2⟩:=Hg hM hr k2 m2
        obtain ⟨_,z4⟩:=Xb z2
        have a3:Zt (fun b=>JZ r b∨b=x.blk) w (.slice (some ⟨x.blk,off,none⟩) 1 cap) [⟨l,if sd then 1 else 0,if sd then 0 else 1⟩]:=by
         refine ⟨_,_,rfl,hdn,by omega,fun _=>⟨x.blk,off,rfl,.inr rfl,World.block_lt_of_cell? w _ k1,fun j y hy => ?_⟩⟩
         cases j with
         | succ j=>simp at hy
         | zero =>
          simp at hy
          subst hy
          exact ⟨⟨u1,by simpa using k1,a2.mono fun b hb _ => .inl hb⟩,by simpa [tc] using k3,by cases sd <;> simp,by cases sd <;> simp,z4⟩
        have hw1:ZJ [(⟨l,if sd then 1 else 0,if sd then 0 else 1⟩:Itm)]=1:=by cases sd <;> rfl
        refine Jk hf hname hb ((P5 a1 a3 (by rw [ZU]; have:=z1.few; omega) (by simp) z1.rows (fun y hy=>by rw [List.mem_singleton.1 hy]; exact z2) (by rw [hw1]; have:=z1.sum; omega)).mono ?_)
        rintro _ w' ⟨u,S3,rfl,hz,h3,_,h4,h5⟩
        have:S3=S'':=ZP.uniq hz hs.set fun r=>by
         rw [h3,X4,TV,hnf]
         cases sd <;> simp [JG,Itm.net]
        subst this
        obtain ⟨q,e1,e2⟩:=Tk hM hr h5 (fun k hk _ => .inr hk) m3 hs h4
        exact ⟨_,rfl,q,e1,.tuple (.cons e2 (.cons (.int _ _) .nil))⟩
     ·cases h0
  ·cases h0
 ·cases h0
end
end Ev
end Go.Proofs.YtheflbaejhlboaaGreatDoor
namespace Go.Proofs.YtheflbaejhlboaaGreatDoor
open Go
theorem ZhV {n:Int} (h0:n≠0) (h1 : -1000000≤n) (h2:n≤1000000) (P:Program) (t:TypeId) (W:World) :
  (binOp .eql t (tn n) (.complex .f64 0 0)).run P W = .ok (.bool false) W∧(binOp .neq t (tn n) (.complex .f64 0 0)).run P W = .ok (.bool true) W:=by
 have e:(Value.complex .f64 0 0) = .complex .f64 (fl 0) (fl 0):=by rw [Zdt]
 have hb:(decide (n.toNat=0) && decide ((-n).toNat=0))=false:=by
  rw [Bool.and_eq_false_iff,decide_eq_false_iff_not,decide_eq_false_iff_not]
  omega
 rw [e]
 unfold tn tc
 rw [H8 (by omega) (by omega) (by decide) (by decide),Xk (by omega) (by omega) (by decide) (by decide),hb]
 exact ⟨rfl,rfl⟩
theorem Zdu {M:Nat→Mn} (h:M 0 = .nz):∀ F w v,Qx M 0 F w v→(∃ a b,v = .complex .f64 a b)∧∀ (P:Program) (t:TypeId) (W:World),(binOp .eql t v (.complex .f64 0 0)).run P W = .ok (.bool false) W∧(binOp .neq t v (.complex .f64 0 0)).run P W = .ok (.bool true) W:=by
 intro F w v hm
 unfold Qx at hm
 rw [h] at hm
 obtain ⟨n,h0,h1,h2,rfl⟩:=hm
 exact ⟨⟨_,_,rfl⟩,fun P t W=>ZhV h0 h1 h2 P t W⟩
namespace Ev
noncomputable section
def ZiL (s:St) (o:Option Bool):R:=match o with
 | some true => .ok (.gho s.next 0) s.TB
 | some false => .ok (.ZW .f64 0 0) s
 | none => .bad
def ofR (T:Nat→Nat→Option Bool) (args:List Zc) (s:St):R:=match args with
 | [.gho _ a,.gho _ t]=>ZiL s (T a t)
 | _ => .bad
def oOf (T:Nat→Nat→Option Bool):Orc:=⟨ofR T⟩
end
section
variable [Sig] {M:Nat→Mn} (hM:Sig.Q6=Qx M)
include hM
theorem ZbO {T:Nat→Nat→Option Bool} (h0:M 0 = .nz) (hT:∀ a t b,T a t=some b→∃ S l,M a = .set S∧M t = .row l∧(b=true↔Ql S l≠0) ∧ -1000000≤Ql S l∧Ql S l≤1000000)
  {fn:Func} {b:Code} (hf:Tryz.prog.funcs[166]? = some fn) (hname:(fn.name== "runtime.NumGoroutine")=false) (hb:fn.body=some b):Z4 Tryz.prog 166 (oOf T):=by
 intro args s v s' h r w us hr hv
 have h:ofR T args s = .ok v s':=h
 unfold ofR at h
 split at h
 ·rename_i i a j t _
  cases hv with
  | cons hx ht=>cases ht with
   | cons hy ht =>
    cases ht
    cases hc:T a t with
    | none=>rw [hc] at h; cases h
    | some bb =>
     rw [hc] at h
     obtain ⟨S,l,m1,m2,hiff,g1,g2⟩:=hT a t bb hc
     obtain ⟨z1,a1⟩:=Ja hM hr hx m1
     obtain ⟨z2,a2⟩:=Hg hM hr hy m2
     refine Jk hf hname hb ((TQ a1 z1.zr a2).mono ?_)
     rintro _ w' ⟨rfl,h5⟩
     cases bb with
     | true =>
      cases h
      have hm:Sig.Q6 0 (fun _=>False) w' (tn (Ql S l)):=by
       rw [hM]
       unfold Qx
       rw [h0]
       exact ⟨_,hiff.1 rfl,g1,g2,rfl⟩
      obtain ⟨q,e1,e2⟩:=Br hr h5 (u:=tn (Ql S l)) rfl (fun b h=>by cases h) (fun k hk _=>hk.elim) hm
      exact ⟨_,rfl,q,e1,e2⟩
     | false =>
      cases h
      have hz:Ql S l=0:=by
       by_cases hz:Ql S l=0
       ·exact hz
       ·have:=hiff.2 hz; cases this
      rw [hz]
      refine ⟨_,rfl,r,Ext.same hr h5,?_⟩
      show VR r (.ZW .f64 0 0) (.complex .f64 (fl 0) (fl 0))
      rw [Zdt]
      exact .ZW _ _ _
 ·cases h
end
end Ev
end Go.Proofs.YtheflbaejhlboaaGreatDoor
namespace Go.Proofs.YtheflbaejhlboaaGreatDoor
open Go
theorem Sm.net {S:List (List Vl×Int)} (h:Sm S) (r:List Vl) : -1000000≤Ql S r∧Ql S r≤1000000:=by
 have hs:=h.sum
 have key:∀ (l:List (List Vl×Int)) (B:Nat),ZJ (Zz l)≤B → -(B:Int)≤Ql l r∧Ql l r≤(B:Int):=by
  intro l
  induction l with
  | nil=>intro B _; simp [Ql]
  | cons p l ih =>
   intro B hB
   have hB:(ZI p).a+(ZI p).b+ZJ (Zz l)≤B:=hB
   have h1:(ZI p).a=p.2.toNat∧(ZI p).b=(-p.2).toNat:=⟨rfl,rfl⟩
   rw [h1.1,h1.2] at hB
   rw [Ql]
   split
   ·omega
   ·exact ih B (by omega)
 have:=key S 1000000 hs
 omega
namespace Ev
noncomputable section
def ZhW (T:Nat→Nat→Nat→Option Nat) (s:St) (d:Nat) (n h:V):R:=match n,h with
 | .ok (.gho _ n),.ok (.gho _ h)=>ZhP s (T d n h)
 | _,_ => .bad
def ZhX (T:Nat→Nat→Nat→Option Nat) (s:St) (d mb:Nat) (q:V):R:=match q with
 | .ok (.ptr qb 0)=>ZhW T s d (cellAt s qb 11) (cellAt s mb 11)
 | _ => .bad
def ZhY (T:Nat→Nat→Nat→Option Nat) (s:St) (d mb:Nat) (k:V):R:=match k with
 | .ok (.slice kb ko (n+1) _)=>sel (Nat.ble n 1000) (ZhX T s d mb (cellAt s kb ko)) .bad
 | _ => .bad
def ZfR (T:Nat→Nat→Nat→Option Nat) (args:List Zc) (s:St):R:=match args with
 | [.ptr mb 0,.gho _ d]=>ZhY T s d mb (cellAt s mb 9)
 | _ => .bad
def ZhZ (T:Nat→Nat→Nat→Option Nat):Orc:=⟨ZfR T⟩
end
section
variable [Sig] {M:Nat→Mn} (hM:Sig.Q6=Qx M)
include hM
theorem UQ {T:Nat→Nat→Nat→Option Nat} (hT:∀ d n h c,T d n h=some c→∃ D N H S,M d = .set D∧M n = .set N∧M h = .set H∧M c = .set S∧Sm S∧∀ r,nf S r=nf (Wi D N H) r)
  {fn:Func} {b:Code} (hf:Tryz.prog.funcs[182]? = some fn) (hname:(fn.name== "runtime.NumGoroutine")=false) (hb:fn.body=some b):Z4 Tryz.prog 182 (ZhZ T):=by
 intro args s v s' h r w us hr hv
 have h0:ZfR T args s = .ok v s':=h
 unfold ZfR at h0
 split at h0
 ·rename_i _ mb di d
  unfold ZhY at h0
  split at h0
  ·rename_i kb ko kn kc hk
   rcases Ze h0 with ⟨g1,h0⟩ | ⟨_,h0⟩
   ·unfold ZhX at h0
    split at h0
    ·rename_i qb hq
     unfold ZhW at h0
     split at h0
     ·rename_i ni n hi hh hn hh2
      cases hv with
      | cons hx ht=>cases ht with
       | cons hy ht =>
        cases ht
        cases hx with
        | ptr hx =>
         rename_i x
         cases hc:T d n hh with
         | none=>rw [hc] at h0; cases h0
         | some c =>
          rw [hc] at h0
          cases h0
          obtain ⟨D,N,H,S,m1,m2,m3,m4,hs,hnf⟩:=hT d n hh c hc
          obtain ⟨z1,a1⟩:=Ja hM hr hy m1
          obtain ⟨u1,k1,k2⟩:=Z8 hr hk hx
          cases k2 with
          | slice hkx hkn hkc hku =>
           obtain ⟨u2,k3,k4⟩:=Z8 hr hq hkx
           cases k4 with
           | ptr hqx =>
            obtain ⟨u3,k5,k6⟩:=Z8 hr hn hqx
            obtain ⟨u4,k7,k8⟩:=Z8 hr hh2 hx
            obtain ⟨z2,a2⟩:=Ja hM hr k6 m2
            obtain ⟨z3,a3⟩:=Ja hM hr k8 m3
            refine Jk hf hname hb ((UR a1 a2 a3 k1 (Nat.succ_pos _) (by have:=Z6 g1; omega) k3 k5 k7 z2.zr z3.zr z2.net z3.net (by have:=z1.few; omega)).mono ?_)
            rintro _ w' ⟨u,rfl,h4,h5⟩
            have:S=Wi D N H:=ZP.uniq hs.set (Bv z1.set) hnf
            subst this
            obtain ⟨q,e1,e2⟩:=Tk hM hr h5 (F:=fun b=>new w b∨JZ r b∧b<w.heap.size) (fun k hk _=>by
             rcases hk with hk | hk
             ·exact .inr hk
             ·exact .inl hk.1) m4 hs h4
            exact ⟨_,rfl,q,e1,e2⟩
     ·cases h0
    ·cases h0
   ·cases h0
  ·cases h0
 ·cases h0
end
end Ev
end Go.Proofs.YtheflbaejhlboaaGreatDoor
namespace Go.Proofs.YtheflbaejhlboaaGreatDoor
open Go
def prS (S:List (List Vl×Int)):List (List Vl×Int):=S.map fun p=>(p.1.take 1,p.2)
def vl0:Vl:=⟨1,0,[]⟩
theorem Zdv (S:List (List Vl×Int)) (h:∀ p∈S,p.1≠[]) (r:List Vl):JG ((Zz S).map fun x=>⟨[x.row.headD vl0],x.a,x.b⟩) r=nf (prS S) r:=by
 induction S with
 | nil=>rfl
 | cons p S ih =>
  show JG (⟨[p.1.headD vl0],p.2.toNat,(-p.2).toNat⟩::(Zz S).map fun x=>⟨[x.row.headD vl0],x.a,x.b⟩) r=nf ((p.1.take 1,p.2)::prS S) r
  rw [JG,nf,ih fun q hq=>h q (by simp [hq])]
  have h1:[p.1.headD vl0]=p.1.take 1:=by
   cases hp:p.1 with
   | nil=>exact absurd hp (h p (by simp))
   | cons x l=>simp
  rw [show (⟨[p.1.headD vl0],p.2.toNat,(-p.2).toNat⟩:Itm).row=p.1.take 1 from h1]
  congr 1
  unfold Itm.net
  simp only
  split <;> omega
theorem Cb {r:List Vl} (h:Zl r=true):r≠[]:=by
 rintro rfl
 simp [Zl] at h
namespace Ev
noncomputable section
def isI (v:V) (k:Int):Bool:=match v with
 | .ok (.int .i64 n)=>ieq n k
 | _=>false
def isS (v:V) (l:List UInt8):Bool:=match v with
 | .ok (.str s)=>Qv s l
 | _=>false
def ZfS (v:V):Bool:=match v with
 | .ok .Za=>true
 | _=>false
def ZbP (s:St) (b o:Nat) (nm:List UInt8):Bool:=sel (isI (cellAt s b o) 1) (sel (isS (cellAt s b (o+1)) nm) (sel (isI (cellAt s b (o+2)) 0) (ZfS (cellAt s b (o+3))) false) false) false
def ZeG (s:St) (nm:List UInt8) (v:Zc):Bool:=match v with
 | .slice id off (n+1) _=>sel (Nat.ble n 1000) (isS (cellAt s id off) nm) false
 | _=>false
def ZeH (s:St) (nm:List UInt8) (eb eo:Nat) (c:Zc) (t:Option Nat) (ks:Option (List Int)):R:=match ks with
 | some (k::ks)=>sel (ZbP s eb eo nm) (sel (ZeG s nm c) (sel (Wf s (k::ks) c) (ZbD s t) .bad) .bad) .bad
 | _ => .bad
def ZbQ (K:Nat→Option (List Int)) (T:Nat→Option Nat) (nm:List UInt8) (args:List Zc) (s:St):R:=match args with
 | [.agg [_,_,.slice eb eo 1 _,_,_,_,_,_],c,.gho _ t]=>ZeH s nm eb eo c (T t) (K t)
 | _ => .bad
def ZeI (K:Nat→Option (List Int)) (T:Nat→Option Nat) (nm:List UInt8):Orc:=⟨ZbQ K T nm⟩
end
section
variable [Sig]
theorem ZbR {v:V} {k:Int} (h:isI v k=true):v = .ok (.int .i64 k):=by
 unfold isI at h
 split at h
 ·rw [QC] at h
  rw [eq_of_beq h]
 ·cases h
theorem ZbS {v:V} {l:List UInt8} (h:isS v l=true):v = .ok (.str l):=by
 unfold isS at h
 split at h
 ·rw [Qh] at h
  rw [eq_of_beq h]
 ·cases h
theorem Zdw {v:V} (h:ZfS v=true):v = .ok .Za:=by
 unfold ZfS at h
 split at h
 ·rfl
 ·cases h
variable {M:Nat→Mn} (hM:Sig.Q6=Qx M)
include hM
theorem Cc {K:Nat→Option (List Int)} {T:Nat→Option Nat} {nm:List UInt8} (hn:∀ w,Calls Tryz.prog 86 #[.string (str nm)] w fun e w'=>e = .returned (.bool true)∧Chg (fun _=>False) w w')
  (hK:∀ t ks,K t=some ks→∃ S,M t = .set S∧∀ p∈S,p.1.map (·.k)=ks) (hT:∀ t c,T t=some c→∃ S S',M t = .set S∧M c = .set S'∧Sm S'∧∀ r,nf S' r=nf (prS S) r)
  {fn:Func} {b:Code} (hf:Tryz.prog.funcs[179]? = some fn) (hname:(fn.name== "runtime.NumGoroutine")=false) (hb:fn.body=some b):Z4 Tryz.prog 179 (ZeI K T nm):=by
 intro args s v s' h r w us hr hv
 have h:ZbQ K T nm args s = .ok v s':=h
 unfold ZbQ at h
 split at h
 ·rename_i _ a0 a1 eb eo ec a3 a4 a5 a6 a7 c gi t
  unfold ZeH at h
  split at h
  ·rename_i _ k ks hks
   obtain ⟨g1,ha⟩:=Zr h
   obtain ⟨g2,hb'⟩:=Zr ha
   obtain ⟨g3,hz'⟩:=Zr hb'
   clear h ha hb'
   unfold ZbP at g1
   obtain ⟨x0,g1⟩:=ZE g1
   obtain ⟨x1,g1⟩:=ZE g1
   obtain ⟨x2,x3⟩:=ZE g1
   unfold ZeG at g2
   split at g2
   ·rename_i id off n cc
    obtain ⟨y0,y1⟩:=ZE g2
    unfold ZbD at hz'
    split at hz'
    ·rename_i c2 hc2
     cases hz'
     obtain ⟨S,m1,hk⟩:=hK _ _ hks
     obtain ⟨S2,S',m2,m3,hs,hnf⟩:=hT _ _ hc2
     rw [m1] at m2
     cases m2
     cases hv with
     | cons hp ht=>cases ht with
      | cons hc ht=>cases ht with
       | cons hg ht =>
        cases ht
        obtain ⟨z1,q1⟩:=Ja hM hr hg m1
        have hcols:=Wg hr hc g3
        cases hc with
        | slice hcx hcn hcc hcu =>
         rename_i xc ccap
         obtain ⟨u0,k0,v0⟩:=Z8 hr (ZbS y1) hcx
         cases v0
         have hlen0:n+1=(k::ks).length:=by
          unfold Wf at g3
          obtain ⟨e1,_⟩:=ZE g3
          exact Nat.eq_of_beq_eq_true e1
         have hkind:∃ kk:Int,w.cell? ⟨xc.blk,off+1,none⟩=some (.int .i64 kk):=by
          obtain ⟨A,cap,e,hh⟩:=hcols
          obtain ⟨b,o2,e2,h3⟩:=hh (by simp)
          injection e with e3 e4 e5
          rw [e2] at e3
          injection e3 with e3
          injection e3 with e3 e6 e7
          have:=h3 0 k rfl
          rw [← e3,← e6] at this
          exact ⟨k,by simpa using this⟩
         have hcol0:Fy w (.slice (some ⟨xc.blk,off,none⟩) (n+1) ccap) nm:=⟨xc.blk,off,n+1,ccap,rfl,by omega,by have:=Z6 y0; omega,k0,hkind⟩
         cases hp with
         | agg hp =>
          cases hp with
          | cons p0 hp=>cases hp with
           | cons p1 hp=>cases hp with
            | cons p2 hp=>cases hp with
             | cons p3 hp=>cases hp with
              | cons p4 hp=>cases hp with
               | cons p5 hp=>cases hp with
                | cons p6 hp=>cases hp with
                 | cons p7 hp =>
                  cases hp
                  cases p2 with
                  | slice hex hen hec heu =>
                   rename_i xe ecap
                   obtain ⟨u0,d0,w0⟩:=Z8 hr (ZbR x0) hex
                   obtain ⟨u1,d1,w1⟩:=Z8 hr (ZbS x1) hex
                   obtain ⟨u2,d2,w2⟩:=Z8 hr (ZbR x2) hex
                   obtain ⟨u3,d3,w3⟩:=Z8 hr (Zdw x3) hex
                   cases w0; cases w1; cases w2; cases w3
                   refine Jk hf hname hb ((Cd (fun r=>r.headD vl0) q1 d0 d1 d2 d3 (fun x hx rv W hrow hW => ?_) (fun x hx => ?_) (by have:=z1.sum; omega) (by rw [ZU]; have:=z1.few; omega)).mono ?_)
                   ·obtain ⟨p,hp,rfl⟩:=List.mem_map.1 hx
                    have hr1:=z1.set.row p hp
                    obtain ⟨z2,z3⟩:=Xb hr1
                    have hkp:=hk p hp
                    have hrow:Zq (JZ r) W rv p.1:=hrow.Zi hW
                    show Calls Tryz.prog 293 _ W fun e w'=>e = .returned (.tuple #[(p.1.headD vl0).val,.int .i64 0])∧Chg (fun _=>False) W w'
                    cases hp1:p.1 with
                    | nil=>exact absurd hp1 (Cb hr1)
                    | cons x l =>
                     rw [hp1] at hrow z2 z3 hkp
                     exact MH hn (hcol0.Zi hW) (hkp▸hcols.Zi hW) hrow z2 z3
                   ·obtain ⟨p,hp,rfl⟩:=List.mem_map.1 hx
                    have hr1:=z1.set.row p hp
                    obtain ⟨z2,_⟩:=Xb hr1
                    show (p.1.headD vl0).right=true
                    cases hp1:p.1 with
                    | nil=>exact absurd hp1 (Cb hr1)
                    | cons x l=>exact z2 x (by rw [hp1]; simp)
                   ·rintro _ w' ⟨u,S3,rfl,hz,h3,_,h4,h5⟩
                    have:S3=S':=ZP.uniq hz hs.set fun r=>by
                     rw [h3,hnf,Zdv S fun p hp=>Cb (z1.set.row p hp)]
                    subst this
                    obtain ⟨q,e1,e2⟩:=Tk hM hr h5 (fun k hk _ => .inr hk) m3 hs h4
                    exact ⟨_,rfl,q,e1,.tuple (.cons e2 (.cons (.int _ _) .nil))⟩
    ·cases hz'
   ·cases g2
  ·cases h
 ·cases h
end
end Ev
end Go.Proofs.YtheflbaejhlboaaGreatDoor
namespace Go.Proofs.YtheflbaejhlboaaGreatDoor
abbrev Zs:=List (List Vl×Int)
def ZV (x:List Vl) (n:Int):Zs→Zs
 | []=>[(x,n)]
 | p::S=>if Qp x p.1<0 then (x,n)::p::S else if x=p.1 then (if p.2+n=0 then S else (x,p.2+n)::S) else p::ZV x n S
theorem Tn {x:List Vl} {n:Int}:∀ {S:Zs} {p:List Vl×Int},p∈ZV x n S→p.1=x∨∃ q∈S,q.1=p.1
 | [],p,h=>by rw [ZV,List.mem_singleton] at h; rw [h]; exact .inl rfl
 | q::S,p,h=>by
  rw [ZV] at h
  split at h
  ·rcases List.mem_cons.1 h with rfl | h
   ·exact .inl rfl
   ·exact .inr ⟨p,h,rfl⟩
  ·split at h
   ·split at h
    ·exact .inr ⟨p,List.mem_cons_of_mem _ h,rfl⟩
    ·rcases List.mem_cons.1 h with rfl | h
     ·exact .inl rfl
     ·exact .inr ⟨p,List.mem_cons_of_mem _ h,rfl⟩
   ·rcases List.mem_cons.1 h with rfl | h
    ·exact .inr ⟨p,by simp,rfl⟩
    ·rcases Tn h with h1 | ⟨q',h1,h2⟩
     ·exact .inl h1
     ·exact .inr ⟨q',List.mem_cons_of_mem _ h1,h2⟩
theorem JX (x:List Vl) (n:Int) (r:List Vl):∀ S:Zs,nf (ZV x n S) r=nf S r+if x=r then n else 0
 | []=>by simp [ZV,nf]
 | p::S=>by
  rw [ZV]
  split
  ·rw [nf,Int.add_comm]
  ·split
   ·rename_i h
    split
    ·rw [nf,← h]
     split <;> omega
    ·rw [nf,nf,← h]
     simp only
     split <;> omega
   ·rw [nf,nf,JX x n r S]
    omega
theorem To (x:List Vl) (n:Int) (r:List Vl):∀ S:Zs,nf (prS (ZV x n S)) r=nf (prS S) r+if x.take 1=r then n else 0
 | []=>by show nf [(x.take 1,n)] r=_; rw [nf]; simp [prS,nf]
 | p::S=>by
  rw [ZV]
  split
  ·show nf ((x.take 1,n)::prS (p::S)) r=_
   rw [nf,Int.add_comm]
  ·split
   ·rename_i h
    split
    ·show nf (prS S) r=nf ((p.1.take 1,p.2)::prS S) r+_
     rw [nf,← h]
     simp only
     split <;> omega
    ·show nf ((x.take 1,p.2+n)::prS S) r=nf ((p.1.take 1,p.2)::prS S) r+_
     rw [nf,nf,← h]
     simp only
     split <;> omega
   ·show nf ((p.1.take 1,p.2)::prS (ZV x n S)) r=nf ((p.1.take 1,p.2)::prS S) r+_
    rw [nf,nf,To x n r S]
    omega
theorem Fz (x:List Vl) (n:Int):∀ S:Zs,(ZV x n S).length≤S.length+1
 | []=>by simp [ZV]
 | p::S=>by
  rw [ZV]
  split
  ·simp
  ·split
   ·split <;> simp <;> omega
   ·have:=Fz x n S
    simp only [List.length_cons]
    omega
theorem Jb (p:List Vl×Int) (S:Zs):ZJ (Zz (p::S))=p.2.natAbs+ZJ (Zz S):=by
 show ZJ (ZI p::Zz S)=_
 rw [ZJ]
 unfold ZI
 simp only
 omega
theorem NG (x:List Vl) (n:Int):∀ S:Zs,ZJ (Zz (ZV x n S))≤ZJ (Zz S)+n.natAbs
 | []=>by rw [ZV,Jb]; simp [Zz,ZJ]
 | p::S=>by
  rw [ZV]
  split
  ·rw [Jb]; omega
  ·split
   ·split
    ·rw [Jb]; omega
    ·rw [Jb,Jb]
     simp only
     omega
   ·have:=NG x n S
    rw [Jb,Jb]
    omega
theorem Tp {x:List Vl} {n:Int} (hx:Zl x=true) (hn:n≠0):∀ {S:Zs},ZP S→ZP (ZV x n S)
 | [],_=>⟨fun p hp=>by rw [ZV,List.mem_singleton] at hp; rw [hp]; exact hx,fun p hp=>by rw [ZV,List.mem_singleton] at hp; rw [hp]; exact hn,by rw [ZV]; exact List.pairwise_singleton _ _⟩
 | p::S,h=>by
  have hp:=h.row p (by simp)
  have hpv:=ZG hp
  have hxv:=ZG hx
  have hord:=List.pairwise_cons.1 h.ord
  rw [ZV]
  split
  ·rename_i h1
   refine ⟨fun q hq => ?_,fun q hq => ?_,List.pairwise_cons.2 ⟨fun q hq => ?_,h.ord⟩⟩
   ·rcases List.mem_cons.1 hq with rfl | hq
    ·exact hx
    ·exact h.row q hq
   ·rcases List.mem_cons.1 hq with rfl | hq
    ·exact hn
    ·exact h.net q hq
   ·rcases List.mem_cons.1 hq with rfl | hq
    ·exact h1
    ·exact XT hxv hpv (ZG (h.row q (List.mem_cons_of_mem _ hq))) h1 (hord.1 q hq)
  ·rename_i h1
   split
   ·rename_i h2
    split
    ·exact h.tail
    ·rename_i h3
     refine ⟨fun q hq => ?_,fun q hq => ?_,List.pairwise_cons.2 ⟨fun q hq => ?_,hord.2⟩⟩
     ·rcases List.mem_cons.1 hq with rfl | hq
      ·exact hx
      ·exact h.row q (List.mem_cons_of_mem _ hq)
     ·rcases List.mem_cons.1 hq with rfl | hq
      ·exact h3
      ·exact h.net q (List.mem_cons_of_mem _ hq)
     ·rw [h2]; exact hord.1 q hq
   ·rename_i h2
    have ih:=Tp hx hn h.tail
    refine ⟨fun q hq => ?_,fun q hq => ?_,List.pairwise_cons.2 ⟨fun q hq => ?_,ih.ord⟩⟩
    ·rcases List.mem_cons.1 hq with rfl | hq
     ·exact hp
     ·exact ih.row q hq
    ·rcases List.mem_cons.1 hq with rfl | hq
     ·exact h.net q (by simp)
     ·exact ih.net q hq
    ·rcases Tn hq with h3 | ⟨q',h3,h4⟩
     ·rw [h3]
      have h5:Qp x p.1≠0:=fun e=>h2 ((QI hxv hpv).1 e)
      rw [TR hpv hxv]
      omega
     ·rw [← h4]
      exact hord.1 q' h3
structure Bd (k:Nat) (S:Zs):Prop where
 set:ZP S
 len:S.length≤k
 sum:ZJ (Zz S)≤k
theorem Bd.sm {k:Nat} {S:Zs} (h:Bd k S) (hk:k≤1000):Sm S:=⟨h.set,by have:=h.len; omega,by have:=h.sum; omega⟩
theorem Bd.nil:Bd 0 []:=⟨ZP.nil,by simp,by simp [Zz,ZJ]⟩
theorem Bd.mono {k m:Nat} {S:Zs} (h:Bd k S) (hk:k≤m):Bd m S:=⟨h.set,by have:=h.len; omega,by have:=h.sum; omega⟩
theorem Bd.ZV {k:Nat} {S:Zs} (h:Bd k S) {x:List Vl} {n:Int} (hx:Zl x=true) (hn:n=1∨n = -1):Bd (k+1) (ZV x n S) :=
 ⟨Tp hx (by omega) h.set,by have:=Fz x n S; have:=h.len; omega,by have:=NG x n S; have:=h.sum; omega⟩
def Wj (S:Zs):Zs:=S.map fun p=>(p.1,1)
theorem Hi {S:Zs} (h:ZP S) (r:List Vl):nf (Wj S) r=if nf S r=0 then 0 else 1:=by
 induction S with
 | nil=>rfl
 | cons p S ih =>
  show nf ((p.1,1)::Wj S) r=_
  rw [nf,nf,ih h.tail]
  simp only
  by_cases e:p.1=r
  ·subst e
   have h1:nf S p.1=0:=Wk fun q hq e2=>by
    have:=(List.pairwise_cons.1 h.ord).1 q hq
    rw [e2] at this
    exact Xr (ZG (h.row p (by simp))) this
   have h2:=h.net p (by simp)
   rw [if_pos rfl,if_pos rfl,h1,if_pos rfl,if_neg (by omega)]
   rfl
  ·rw [if_neg e,if_neg e]
   simp
theorem Bd.one {k:Nat} {S:Zs} (h:Bd k S):Bd k (Wj S) where
 set:=by
  refine ⟨fun p hp => ?_,fun p hp => ?_,?_⟩
  ·obtain ⟨q,hq,rfl⟩:=List.mem_map.1 hp
   exact h.set.row q hq
  ·obtain ⟨q,hq,rfl⟩:=List.mem_map.1 hp
   simp
  ·unfold Wj
   rw [List.pairwise_map]
   exact h.set.ord
 len:=by unfold Wj; rw [List.length_map]; exact h.len
 sum:=by
  have h1:∀ S:Zs,ZJ (Zz (Wj S))=S.length:=fun S=>by
   induction S with
   | nil=>rfl
   | cons p S ih =>
    show ZJ (Zz ((p.1,1)::Wj S))=_
    rw [Jb,ih]
    simp
    omega
  rw [h1]
  exact h.len
theorem Vc {S:Zs} (h:∀ p∈S,0≤p.2) (r:List Vl):0≤nf S r:=by
 induction S with
 | nil=>exact Int.le_refl _
 | cons p S ih =>
  rw [nf]
  have h1:=h p (by simp)
  have h2:=ih fun q hq=>h q (by simp [hq])
  split <;> omega
theorem ZbT {S:Zs} (h:∀ p∈S,0≤p.2) (r:List Vl):0≤nf (prS S) r:=Vc (fun p hp=>by
 obtain ⟨q,hq,rfl⟩:=List.mem_map.1 hp
 exact h q hq) r
theorem ZbU {S:Zs} (h:ZP S) (hp:∀ r,0≤nf S r):∀ p∈S,0≤p.2:=fun p h1=>by
 have:=hp p.1
 rw [h.P7 h1] at this
 exact this
theorem FB {S:Zs} (h:ZP S) (hp:∀ p∈S,0≤p.2) {x:List Vl} {n:Int} (hx:Zl x=true) (hn:n≠0) (h0:0≤nf S x+n):∀ p∈ZV x n S,0≤p.2 :=
 ZbU (Tp hx hn h) fun r=>by
  rw [JX]
  have:=Vc hp r
  split
  ·rename_i e; subst e; exact h0
  ·omega
theorem NH {x:List Vl} {n:Int} (hx:Zl x=true) (hn:n≠0):ZP [(x,n)]:=Tp (S:=[]) hx hn ZP.nil
theorem NI {x:List Vl} {n:Int} (hx:Zl x=true) (hn:n=1∨n = -1):Bd 1 [(x,n)]:=Bd.ZV (S:=[]) Bd.nil hx hn
theorem VD (x:List Vl) (n:Int) (r:List Vl):nf [(x,n)] r=if x=r then n else 0:=by simp [nf]
theorem Bw {A:Zs} (h:ZP A) {x:List Vl} {n:Int} (hx:Zl x=true) (hn:n≠0) (r:List Vl) :
  nf (Wj (ZV x n A)) r=nf (Wj A) r+nf (Wi [(x,n)] (ZV x n A) (Wj A)) r:=by
 have hz:=Tp hx hn h
 have ho:ZP (Wj A):=(Bd.one (k:=A.length+ZJ (Zz A)) ⟨h,by omega,by omega⟩).set
 rw [Hi hz,Hi h,Zdx (NH hx hn),VD]
 by_cases e:x=r
 ·subst e
  rw [if_pos rfl,if_pos hn]
  unfold Xc
  simp only
  rw [KN hz hx,KN ho hx,Hi h]
  by_cases h1:nf (ZV x n A) x=0 <;> by_cases h2:nf A x=0 <;> simp [h1,h2]
 ·rw [if_neg e,JX,if_neg e]
  simp
theorem ZfT {x:List Vl} {n:Int} (N H:Zs) (hx:Zl x=true) (hn:n≠0):Bd 1 (Wi [(x,n)] N H) where
 set:=Bv (NH hx hn)
 len:=by
  unfold Wi
  exact Nat.le_trans (List.length_filterMap_le _ _) (by simp)
 sum:=by
  unfold Wi
  rw [List.filterMap_cons]
  split
  ·simp [Zz,ZJ]
  ·rename_i q hq
   obtain ⟨_,h1⟩:=Jv hq
   rw [List.filterMap_nil,Jb]
   simp [Zz,ZJ]
   omega
end Go.Proofs.YtheflbaejhlboaaGreatDoor
