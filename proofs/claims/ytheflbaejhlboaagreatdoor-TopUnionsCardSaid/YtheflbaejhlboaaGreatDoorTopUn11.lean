/- A part of the proof of a law of package confluencetop: lemmas, no condition of ours. -/
import Derived.Test.YtheflbaejhlboaaGreatDoorTopUn10
import Derived.Calls
import Derived.Laws.Sem
import Derived.Laws.Cells
import Derived.Laws.IdiomCopy
import Derived.Laws.World
set_option linter.unusedVariables false
set_option linter.unusedSectionVars false
set_option linter.unusedSimpArgs false
namespace Go.Proofs.YtheflbaejhlboaaGreatDoor.Ev
open Go
section
variable {α : Type}
theorem Jg (a b : α):sel true a b=a:=rfl
theorem QO (a b : α):sel false a b=b:=rfl
theorem Ze {β : Type} {c:Bool} {a b : β} {r : β} (h:sel c a b=r):(c=true∧a=r)∨(c=false∧b=r):=by
 cases c
 ·exact .inr ⟨rfl,h⟩
 ·exact .inl ⟨rfl,h⟩
theorem XH (f n:Nat):SB (f+1) n=if n=0 then [] else Nat.beq (n%2) 1::SB f ((n-1) / 2):=by
 show sel (Nat.beq n 0) [] (Nat.beq (Nat.mod n 2) 1::SB f (Nat.div (Nat.sub n 1) 2))=_
 cases hb:Nat.beq n 0
 ·have:n≠0:=fun e=>by subst e; cases hb
  rw [if_neg this]
  rfl
 ·have:n=0:=Nat.eq_of_beq_eq_true hb
  rw [if_pos this]
  rfl
theorem MO:∀ (f g n m:Nat),n≤f→m≤g→SB f n=SB g m→n=m
 | 0,0,n,m,hn,hm,_=>by omega
 | 0,g+1,n,m,hn,hm,h=>by
  rw [XH] at h
  by_cases h0:m=0
  ·omega
  ·rw [if_neg h0] at h; cases h
 | f+1,0,n,m,hn,hm,h=>by
  rw [XH] at h
  by_cases h0:n=0
  ·omega
  ·rw [if_neg h0] at h; cases h
 | f+1,g+1,n,m,hn,hm,h=>by
  rw [XH,XH] at h
  by_cases h0:n=0 <;> by_cases h1:m=0
  ·omega
  ·rw [if_pos h0,if_neg h1] at h; cases h
  ·rw [if_neg h0,if_pos h1] at h; cases h
  ·rw [if_neg h0,if_neg h1] at h
   injection h with h2 h3
   have h4:=MO f g _ _ (by omega) (by omega) h3
   have h5:n%2=1↔m%2=1:=by
    constructor
    ·intro e; rw [e] at h2; exact Nat.eq_of_beq_eq_true h2.symm
    ·intro e; rw [e] at h2; exact Nat.eq_of_beq_eq_true h2
   omega
theorem E0 {n m:Nat} (h:bits n=bits m):n=m:=MO n m n m (Nat.le_refl _) (Nat.le_refl _) h
theorem QS (a:Option α):∀ (p:List Bool) (t:Tr α),Tr.RQ p (Tr.Zct a p t)=a
 | [],.lf=>rfl
 | [],.nd _ _ _=>rfl
 | true::p,.lf=>QS a p .lf
 | false::p,.lf=>QS a p .lf
 | true::p,.nd _ l _=>QS a p l
 | false::p,.nd _ _ r=>QS a p r
theorem KU (q:List Bool):Tr.RQ q (.lf:Tr α)=none:=by cases q <;> rfl
theorem JJ (a:Option α):∀ (p q:List Bool) (t:Tr α),p≠q→Tr.RQ q (Tr.Zct a p t)=Tr.RQ q t
 | [],[],_,h=>absurd rfl h
 | [],true::q,.lf,_=>by show Tr.RQ q .lf=_; rw [KU]; rfl
 | [],false::q,.lf,_=>by show Tr.RQ q .lf=_; rw [KU]; rfl
 | [],true::q,.nd _ _ _,_=>rfl
 | [],false::q,.nd _ _ _,_=>rfl
 | true::p,[],.lf,_=>rfl
 | false::p,[],.lf,_=>rfl
 | true::p,[],.nd _ _ _,_=>rfl
 | false::p,[],.nd _ _ _,_=>rfl
 | true::p,true::q,.lf,h=>(JJ a p q .lf fun e=>h (by rw [e])).trans (KU q)
 | false::p,false::q,.lf,h=>(JJ a p q .lf fun e=>h (by rw [e])).trans (KU q)
 | true::p,false::q,.lf,_=>KU q
 | false::p,true::q,.lf,_=>KU q
 | true::p,true::q,.nd _ l _,h=>JJ a p q l fun e=>h (by rw [e])
 | false::p,false::q,.nd _ _ r,h=>JJ a p q r fun e=>h (by rw [e])
 | true::p,false::q,.nd _ _ _,_=>rfl
 | false::p,true::q,.nd _ _ _,_=>rfl
theorem KV (t:Tr α) (n:Nat) (a:Option α):(t.set n a).get n=a:=QS a _ t
theorem Yd (t:Tr α) {n m:Nat} (a:Option α) (h:n≠m):(t.set n a).get m=t.get m :=
 JJ a _ _ t fun e=>h (E0 e)
theorem Jo (t:Tr α) (n m:Nat) (a:Option α):(t.set n a).get m=if n=m then a else t.get m:=by
 by_cases h:n=m
 ·subst h; rw [if_pos rfl]; exact KV t n a
 ·rw [if_neg h]; exact Yd t a h
theorem Ye (n:Nat):(Tr.lf:Tr α).get n=none:=KU _
end
namespace St
variable (s:St) (i j:Nat) (b:Zd)
theorem QK:(s.put i b).get j=if i=j then some b else s.get j:=Jo _ _ _ _
theorem JK:(s.kill i).get j=if i=j then none else s.get j:=Jo _ _ _ _
theorem ZB:(s.new b).get j=if s.next=j then some b else s.get j:=Jo _ _ _ _
theorem E1:(s.put i b).next=s.next:=rfl
theorem J7:(s.kill i).next=s.next:=rfl
theorem Qg:(s.new b).next=s.next+1:=rfl
end St
class Sig where
 x:Int
 y:Int
 hx:0≤x∧x≤1000
 hy:0≤y∧y≤1000
 arg:Bool→Int
 Q6:Nat→(Nat→Prop)→World→Value→Prop
 nz:∀ F w v,Q6 0 F w v→(∃ a b,v = .complex .f64 a b)∧∀ (P:Program) (t:TypeId) (W:World),(binOp .eql t v (.complex .f64 0 0)).run P W = .ok (.bool false) W∧(binOp .neq t v (.complex .f64 0 0)).run P W = .ok (.bool true) W
variable [Sig]
structure Gh where
 val:Value
 one:val.oneCell'=true
 nob:∀ b,val ≠ .bool b
 Gi:Nat→Prop
 made:World
structure RB where
 blk:Nat
 size:Nat
 esz:Nat
 gho:Option Gh
abbrev RB.of (blk size esz:Nat):RB:=⟨blk,size,esz,none⟩
abbrev Rho:=Nat→Option RB
def Rho.le (r q:Rho):Prop:=∀ i x,r i=some x→q i=some x
theorem Rho.le_refl (r:Rho):r.le r:=fun _ _ h=>h
theorem Rho.le_trans {r q p:Rho} (h:r.le q) (k:q.le p):r.le p:=fun i x e=>k i x (h i x e)
mutual
inductive VR (r:Rho):Zc→Value→Prop where
 | bool (b:Bool):VR r (.bool b) (.bool b)
 | int (k:IntKind) (n:Int):VR r (.int k n) (.int k n)
 | flt (k:FloatKind) (b:Nat):VR r (.flt k b) (.float k b)
 | ZW (k:FloatKind) (a b:Nat):VR r (.ZW k a b) (.complex k a b)
 | str (l:List UInt8):VR r (.str l) (.string ⟨⟨l⟩⟩)
 | Zh:VR r .Zh (.pointer none)
 | ptr {id off:Nat} {x:RB} (h:r id=some x):VR r (.ptr id off) (.pointer (some ⟨x.blk,off,none⟩))
 | Za:VR r .Za (.slice none 0 0)
 | ZX (a:Addr) (c:Nat):VR r .ZX (.slice (some a) 0 c)
 | slice {id off n:Nat} {c:Option Nat} {x:RB} {cap:Nat} (h:r id=some x) (hn:n≤cap) (hc:∀ k,c=some k→cap=k) (hu:c=none→off+cap*x.esz=x.size) :
   VR r (.slice id off n c) (.slice (some ⟨x.blk,off,none⟩) n cap)
 | Zk:VR r .Zk (.map none)
 | map {id:Nat} {x:RB} (h:r id=some x):VR r (.map id) (.map (some x.blk))
 | func (f:FuncId) {a b:List Zc} {a' b':List Value} (ha:VRs r a a') (hb:VRs r b b'):VR r (.func f a b) (.func (.func f) ⟨a'⟩ ⟨b'⟩)
 | ZH:VR r .ZH .nilFunc
 | nilIface:VR r .nilIface .nilIface
 | iface (t:TypeId) {v:Zc} {u:Value} (h:VR r v u):VR r (.iface t v) (.iface t u)
 | agg {l:List Zc} {l':List Value} (h:VRs r l l'):VR r (.agg l) (.agg ⟨l'⟩)
 | tuple {l:List Zc} {l':List Value} (h:VRs r l l'):VR r (.tuple l) (.tuple ⟨l'⟩)
 | sint (k:IntKind) {c a b n:Int} (h:n=c+a*Sig.x+b*Sig.y):VR r (.sint k c a b) (.int k n)
 | raw {i:Bool} {n:Int} (h:n=Sig.arg i):VR r (.raw i) (.int .i64 n)
 | gho {id tag:Nat} {x:RB} {g:Gh} {u:Value} (h:r id=some x) (hg:x.gho=some g) (hu:g.val=u) (hm:Sig.Q6 tag g.Gi g.made u):VR r (.gho id tag) u
inductive VRs (r:Rho):List Zc→List Value→Prop where
 | nil:VRs r [] []
 | cons {v:Zc} {u:Value} {l:List Zc} {l':List Value} (h:VR r v u) (t:VRs r l l'):VRs r (v::l) (u::l')
end
mutual
theorem VR.mono {r q:Rho} (hle:r.le q):∀ {v:Zc} {u:Value},VR r v u→VR q v u
 | _,_,.bool b => .bool b
 | _,_,.int k n => .int k n
 | _,_,.flt k b => .flt k b
 | _,_,.ZW k a b => .ZW k a b
 | _,_,.str l => .str l
 | _,_,.Zh => .Zh
 | _,_,.ptr h => .ptr (hle _ _ h)
 | _,_,.Za => .Za
 | _,_,.ZX a c => .ZX a c
 | _,_,.slice h hn hc hu => .slice (hle _ _ h) hn hc hu
 | _,_,.Zk => .Zk
 | _,_,.map h => .map (hle _ _ h)
 | _,_,.func f ha hb => .func f (VRs.mono hle ha) (VRs.mono hle hb)
 | _,_,.ZH => .ZH
 | _,_,.nilIface => .nilIface
 | _,_,.iface t h => .iface t (VR.mono hle h)
 | _,_,.agg h => .agg (VRs.mono hle h)
 | _,_,.tuple h => .tuple (VRs.mono hle h)
 | _,_,.sint k h => .sint k h
 | _,_,.raw h => .raw h
 | _,_,.gho h hg hu hm => .gho (hle _ _ h) hg hu hm
theorem VRs.mono {r q:Rho} (hle:r.le q):∀ {l:List Zc} {l':List Value},VRs r l l'→VRs q l l'
 | _,_,.nil => .nil
 | _,_,.cons h t => .cons (VR.mono hle h) (VRs.mono hle t)
end
namespace VRs
variable {r:Rho}
theorem length:∀ {l:List Zc} {l':List Value},VRs r l l'→l'.length=l.length
 | _,_,.nil=>rfl
 | _,_,.cons _ t=>by rw [List.length_cons,List.length_cons,length t]
theorem append:∀ {l m:List Zc} {l' m':List Value},VRs r l l'→VRs r m m'→VRs r (l++m) (l'++m')
 | _,_,_,_,.nil,h=>h
 | _,_,_,_,.cons h t,k => .cons h (append t k)
theorem take:∀ (n:Nat) {l:List Zc} {l':List Value},VRs r l l'→VRs r (l.take n) (l'.take n)
 | 0,_,_,_ => .nil
 | _+1,_,_,.nil => .nil
 | n+1,_,_,.cons h t => .cons h (take n t)
theorem drop:∀ (n:Nat) {l:List Zc} {l':List Value},VRs r l l'→VRs r (l.drop n) (l'.drop n)
 | 0,_,_,h=>h
 | _+1,_,_,.nil => .nil
 | n+1,_,_,.cons _ t=>drop n t
theorem get:∀ {l:List Zc} {l':List Value},VRs r l l'→∀ {i:Nat} {v:Zc},l[i]? = some v→∃ u,l'[i]? = some u∧VR r v u
 | _,_,.nil,_,_,h=>by cases h
 | _,_,.cons h t,0,_,e=>by cases e; exact ⟨_,rfl,h⟩
 | _,_,.cons h t,i+1,_,e=>get t (by simpa using e)
theorem split:∀ {l m:List Zc} {x:List Value},VRs r (l++m) x→∃ l' m',x=l'++m'∧VRs r l l'∧VRs r m m'
 | [],_,x,h=>⟨[],x,rfl,.nil,h⟩
 | _::l,_,_,.cons h t=>by
  obtain ⟨l',m',rfl,h1,h2⟩:=split t
  exact ⟨_::l',m',rfl,.cons h h1,h2⟩
theorem Yz {l:List Zc} {l':List Value} (h:VRs r l l'):∀ n,∃ x,VRs r (Ev.Yz n l) x
 | 0=>⟨[],.nil⟩
 | n+1=>by obtain ⟨x,hx⟩:=Yz h n; exact ⟨_,h.append hx⟩
end VRs
theorem Vk:∀ {l:List Zc} {n:Nat},Kj l n=true→l.length=n
 | [],n,h=>(Nat.eq_of_beq_eq_true (by simpa [Kj] using h)).symm
 | _::l,0,h=>by cases h
 | _::l,n+1,h=>by rw [List.length_cons,Vk (l:=l) (n:=n) h]
theorem Gj:∀ (n:Nat) {l x:List Zc},Zd3 n l=some x→n≤l.length∧x=l.drop n
 | 0,l,x,h=>by cases h; exact ⟨Nat.zero_le _,rfl⟩
 | n+1,[],x,h=>by cases h
 | n+1,_::l,x,h=>by
  obtain ⟨h1,h2⟩:=Gj n (l:=l) (x:=x) h
  exact ⟨by rw [List.length_cons]; omega,h2⟩
theorem SI:∀ (n:Nat) {l x:List Zc},takeN n l=some x→n≤l.length∧x=l.take n
 | 0,l,x,h=>by cases h; exact ⟨Nat.zero_le _,rfl⟩
 | n+1,[],x,h=>by cases h
 | n+1,v::l,x,h=>by
  simp only [takeN] at h
  split at h
  ·rename_i r hr
   cases h
   obtain ⟨h1,h2⟩:=SI n hr
   exact ⟨by rw [List.length_cons]; omega,by rw [List.take_succ_cons,h2]⟩
  ·cases h
theorem sub_eq {l x:List Zc} {off n:Nat} (h:sub l off n=some x):off+n≤l.length∧x=(l.drop off).take n:=by
 unfold sub at h
 split at h
 ·rename_i y hy
  obtain ⟨h1,rfl⟩:=Gj off hy
  obtain ⟨h2,rfl⟩:=SI n h
  rw [List.length_drop] at h2
  exact ⟨by omega,rfl⟩
 ·cases h
theorem E2:∀ {vs l x:List Zc},lay vs l=some x→vs.length≤l.length∧x=vs++l.drop vs.length∧∀ v∈vs,Ri v=true
 | [],l,x,h=>by cases h; exact ⟨Nat.zero_le _,rfl,fun _ h=>by cases h⟩
 | _::_,[],x,h=>by cases h
 | v::vs,_::l,x,h=>by
  simp only [lay] at h
  rcases Ze h with ⟨h0,h⟩ | ⟨_,h⟩
  ·split at h
   ·rename_i r hr
    cases h
    obtain ⟨h1,rfl,h2⟩:=E2 hr
    refine ⟨by simp only [List.length_cons]; omega,by simp,fun u hu => ?_⟩
    rcases List.mem_cons.1 hu with rfl | hu
    ·exact h0
    ·exact h2 u hu
   ·cases h
  ·cases h
theorem Ky:∀ {l:List Zc} {off:Nat} {vs x:List Zc},splice l off vs=some x →
  off+vs.length≤l.length∧x=l.take off++(vs++l.drop (off+vs.length))∧∀ v∈vs,Ri v=true
 | l,0,vs,x,h=>by
  have h0:lay vs l=some x:=by cases l <;> exact h
  obtain ⟨h1,rfl,h2⟩:=E2 h0
  exact ⟨by omega,by simp,h2⟩
 | [],_+1,vs,x,h=>by cases h
 | c::l,off+1,vs,x,h=>by
  simp only [splice] at h
  split at h
  ·rename_i r hr
   cases h
   obtain ⟨h1,rfl,h2⟩:=Ky hr
   exact ⟨by rw [List.length_cons]; omega,by
    rw [List.take_succ_cons,List.cons_append,show off+1+vs.length=(off+vs.length)+1 by omega,List.drop_succ_cons],h2⟩
  ·cases h
theorem YK:∀ (n:Nat) {l:List Zc} {v:Zc},Yy n l = .ok v→l[n]? = some v
 | 0,[],v,h=>by cases h
 | 0,a::l,v,h=>by cases h; rfl
 | n+1,[],v,h=>by cases h
 | n+1,a::l,v,h=>by rw [List.getElem?_cons_succ]; exact YK n h
def ER (r:Rho) (e:Entry) (m:MapEntry):Prop:=VR r e.1 m.key∧VR r e.2.1 m.val∧m.born=e.2.2
inductive ERs (r:Rho):List Entry→List MapEntry→Prop where
 | nil:ERs r [] []
 | cons {e:Entry} {m:MapEntry} {l:List Entry} {l':List MapEntry} (h:ER r e m) (t:ERs r l l'):ERs r (e::l) (m::l')
theorem ERs.mono {r q:Rho} (hle:r.le q):∀ {l:List Entry} {l':List MapEntry},ERs r l l'→ERs q l l'
 | _,_,.nil => .nil
 | _,_,.cons h t => .cons ⟨h.1.mono hle,h.2.1.mono hle,h.2.2⟩ (ERs.mono hle t)
theorem ERs.length {r:Rho}:∀ {l:List Entry} {l':List MapEntry},ERs r l l'→l'.length=l.length
 | _,_,.nil=>rfl
 | _,_,.cons _ t=>by rw [List.length_cons,List.length_cons,ERs.length t]
def BR (r:Rho) (b:Zd) (x:RB) (o:Obj):Prop:=match b with
 | .cells cs e opn=>x.esz=e∧∃ vs rest t fr,o = .cells ⟨vs++rest⟩ t fr∧VRs r cs vs∧(vs++rest).length=x.size∧(opn=false→rest=[]) ∧
   ∀ i,i<x.size→¬ (fr.1≤i∧i<fr.2)
 | .map es c=>∃ l,o = .map ⟨l⟩ c∧ERs r es l
 | .mapIter m since seen st=>match m with
  | none=>o = .mapIter none since ⟨seen⟩ st
  | some m=>∃ y,r m=some y∧o = .mapIter (some y.blk) since ⟨seen⟩ st
theorem BR.mono {r q:Rho} (hle:r.le q) {b:Zd} {x:RB} {o:Obj} (h:BR r b x o):BR q b x o:=by
 cases b with
 | cells cs e opn =>
  obtain ⟨h0,vs,rest,t,fr,h1,h2,h3⟩:=h
  exact ⟨h0,vs,rest,t,fr,h1,h2.mono hle,h3⟩
 | map es c =>
  obtain ⟨l,h1,h2⟩:=h
  exact ⟨l,h1,h2.mono hle⟩
 | mapIter m since seen st =>
  cases m with
  | none=>exact h
  | some m =>
   obtain ⟨y,h1,h2⟩:=h
   exact ⟨y,hle _ _ h1,h2⟩
structure RelB (r:Rho) (s:St) (w:World):Prop where
 block:∀ i b x,s.get i=some b→r i=some x→∃ o,w.heap[x.blk]? = some o∧BR r b x o
 far:∀ i,s.next≤i→s.get i=none
def Hit (r:Rho) (s:St) (k:Nat):Prop:=∃ i b x,s.get i=some b∧r i=some x∧x.blk=k
def Safe (r:Rho) (s:St) (w:World) (g:Gh):Prop :=
 g.made.heap.size≤w.heap.size∧∀ k,g.Gi k→k<g.made.heap.size→w.heap[k]? = g.made.heap[k]? ∧ ¬ Hit r s k
theorem Safe.step {r q:Rho} {s t:St} {w u:World} {g:Gh} (h:Safe r s w g) (hs:w.heap.size≤u.heap.size) (hf:∀ k,k<w.heap.size→¬ Hit r s k→u.heap[k]? = w.heap[k]?)
  (hh:∀ k,Hit q t k→Hit r s k∨w.heap.size≤k):Safe q t u g:=by
 refine ⟨Nat.le_trans h.1 hs,fun k hk hl => ?_⟩
 obtain ⟨h1,h2⟩:=h.2 k hk hl
 have:=h.1
 refine ⟨(hf k (by omega) h2).trans h1,fun hk2 => ?_⟩
 rcases hh k hk2 with h3 | h3
 ·exact h2 h3
 ·omega
structure Rel (r:Rho) (s:St) (w:World):Prop extends RelB r s w where
 apart:∀ i j b c x y,s.get i=some b→s.get j=some c→r i=some x→r j=some y→x.blk=y.blk→i=j
 known:∀ i x,r i=some x→i<s.next
 safe:∀ i x g,r i=some x→x.gho=some g→Safe r s w g
theorem Rel.below {r:Rho} {s:St} {w:World} (h:Rel r s w) {i:Nat} {b:Zd} (hb:s.get i=some b):i<s.next:=by
 rcases Nat.lt_or_ge i s.next with h1 | h1
 ·exact h1
 ·rw [h.far i h1] at hb; cases hb
theorem Rel.lt {r:Rho} {s:St} {w:World} (h:Rel r s w) {k:Nat} (hk:Hit r s k):k<w.heap.size:=by
 obtain ⟨i,b,x,h1,h2,rfl⟩:=hk
 obtain ⟨o,h3,_⟩:=h.block i b x h1 h2
 exact (Array.getElem?_eq_some_iff.1 h3).1
def JZ (r:Rho) (k:Nat):Prop:=∃ i x g,r i=some x∧x.gho=some g∧g.Gi k∧k<g.made.heap.size
structure Ext (r:Rho) (s:St) (w:World) (q:Rho) (t:St) (u:World):Prop where
 rel:Rel q t u
 le:r.le q
 next:s.next≤t.next
 os:u.os=w.os
 tape:u.tape=w.tape
 output:u.output=w.output
 size:w.heap.size≤u.heap.size
 frame:∀ k,k<w.heap.size→¬ Hit r s k→u.heap[k]? = w.heap[k]?
 still:∀ i,i<s.next→r i=none→∀ b,t.get i=some b→s.get i=some b
 dead:∀ i,i<s.next→s.get i=none→t.get i=none
 Xs:∀ k,Hit q t k→Hit r s k∨w.heap.size≤k
 fresh:∀ i,r i=none→q i≠none→s.next≤i
 Kz:∀ k,JZ q k→JZ r k∨w.heap.size≤k
theorem Ext.refl {r:Rho} {s:St} {w:World} (h:Rel r s w):Ext r s w r s w :=
 ⟨h,r.le_refl,Nat.le_refl _,rfl,rfl,rfl,Nat.le_refl _,fun _ _ _=>rfl,fun _ _ _ _ h=>h,fun _ _ h=>h,fun _ h => .inl h,fun _ h k=>absurd h k,fun _ h => .inl h⟩
theorem Ext.trans {r q p:Rho} {s t z:St} {w u y:World} (h:Ext r s w q t u) (k:Ext q t u p z y):Ext r s w p z y where
 rel:=k.rel
 le:=Rho.le_trans h.le k.le
 next:=Nat.le_trans h.next k.next
 os:=k.os.trans h.os
 tape:=k.tape.trans h.tape
 output:=k.output.trans h.output
 size:=Nat.le_trans h.size k.size
 frame:=fun i hi hn=>by
  refine (k.frame i (Nat.lt_of_lt_of_le hi h.size) fun hh => ?_).trans (h.frame i hi hn)
  rcases h.Xs i hh with h1 | h1
  ·exact hn h1
  ·omega
 still:=fun i hi hn b hb=>by
  have hq:q i=none:=by
   cases e:q i with
   | none=>rfl
   | some x=>exact absurd (h.fresh i hn (by rw [e]; exact fun h=>by cases h)) (by omega)
  exact h.still i hi hn b (k.still i (Nat.lt_of_lt_of_le hi h.next) hq b hb)
 dead:=fun i hi hn=>k.dead i (Nat.lt_of_lt_of_le hi h.next) (h.dead i hi hn)
 Xs:=fun i hh=>by
  rcases k.Xs i hh with h1 | h1
  ·exact h.Xs i h1
  ·exact .inr (Nat.le_trans h.size h1)
 fresh:=fun i hn hp=>by
  cases e:q i with
  | none=>exact Nat.le_trans h.next (k.fresh i e hp)
  | some x=>exact h.fresh i hn (by rw [e]; exact fun h=>by cases h)
 Kz:=fun i hh=>by
  rcases k.Kz i hh with h1 | h1
  ·exact h.Kz i h1
  ·exact .inr (Nat.le_trans h.size h1)
theorem Rel.drawn {r:Rho} {s:St} {w:World} (h:Rel r s w) (n:Nat):Rel r s { w with drawn:=n }:=⟨⟨h.block,h.far⟩,h.apart,h.known,h.safe⟩
theorem Ext.drawn {r:Rho} {s:St} {w:World} (h:Rel r s w) (n:Nat):Ext r s w r s { w with drawn:=n } :=
 ⟨h.drawn n,r.le_refl,Nat.le_refl _,rfl,rfl,rfl,Nat.le_refl _,fun _ _ _=>rfl,fun _ _ _ _ h=>h,fun _ _ h=>h,fun _ h => .inl h,fun _ h k=>absurd h k,fun _ h => .inl h⟩
theorem Ext.put {r:Rho} {s:St} {w u:World} (h:Rel r s w) {i:Nat} {b c:Zd} {x:RB} {o:Obj} (hb:s.get i=some b) (hx:r i=some x)
  (hu:u.heap[x.blk]? = some o) (hr:BR r c x o) (hf:∀ k,k≠x.blk→u.heap[k]? = w.heap[k]?) (hs:u.heap.size=w.heap.size) (ho:u.os=w.os) (ht:u.tape=w.tape) (hp:u.output=w.output) :
  Ext r s w r (s.put i c) u where
 rel:=by
  refine ⟨⟨fun j d y hd hy => ?_,fun j hj => ?_⟩,fun j k d e y z hd he hy hz hyz => ?_,fun j y hy=>h.known j y hy,fun j y g hy hg=>(h.safe j y g hy hg).step (by omega) (fun k hk hn=>hf k fun e=>hn ⟨i,b,x,hb,hx,e.symm⟩) fun k ⟨j,d,y,hd,hy,hk⟩ => .inl (by
   rw [St.QK] at hd
   by_cases hj:i=j
   ·subst hj; exact ⟨i,b,y,hb,hy,hk⟩
   ·rw [if_neg hj] at hd; exact ⟨j,d,y,hd,hy,hk⟩)⟩
  ·rw [St.QK] at hd
   by_cases hj:i=j
   ·subst hj
    rw [if_pos rfl] at hd
    cases hd
    rw [hx] at hy
    cases hy
    exact ⟨o,hu,hr⟩
   ·rw [if_neg hj] at hd
    obtain ⟨o',h1,h2⟩:=h.block j d y hd hy
    refine ⟨o',?_,h2⟩
    rw [hf y.blk fun e=>hj (h.apart i j b d x y hb hd hx hy e.symm)]
    exact h1
  ·have hi:=h.below hb
   rw [St.E1] at hj
   rw [St.QK,if_neg (by omega)]
   exact h.far j hj
  ·have live:∀ j d,(s.put i c).get j=some d→∃ d',s.get j=some d':=fun j d hd=>by
    rw [St.QK] at hd
    by_cases hj:i=j
    ·subst hj; exact ⟨b,hb⟩
    ·rw [if_neg hj] at hd; exact ⟨d,hd⟩
   obtain ⟨d',hd'⟩:=live j d hd
   obtain ⟨e',he'⟩:=live k e he
   exact h.apart j k d' e' y z hd' he' hy hz hyz
 le:=r.le_refl
 next:=Nat.le_refl _
 os:=ho
 tape:=ht
 output:=hp
 size:=by omega
 frame:=fun k hk hn=>hf k fun e=>hn ⟨i,b,x,hb,hx,e.symm⟩
 still:=fun j hj hn d hd=>by
  rw [St.QK,if_neg] at hd
  ·exact hd
  ·rintro rfl
   rw [hx] at hn
   cases hn
 dead:=fun j hj hn=>by
  rw [St.QK,if_neg]
  ·exact hn
  ·rintro rfl
   rw [hb] at hn
   cases hn
 Xs:=fun k ⟨j,d,y,hd,hy,hk⟩ => .inl (by
  rw [St.QK] at hd
  by_cases hj:i=j
  ·subst hj; exact ⟨i,b,y,hb,hy,hk⟩
  ·rw [if_neg hj] at hd; exact ⟨j,d,y,hd,hy,hk⟩)
 fresh:=fun j hn hp=>absurd hn hp
 Kz:=fun _ h => .inl h
def Rho.at (r:Rho) (i:Nat) (x:RB):Rho:=fun j=>if j=i then some x else r j
theorem Rho.Zo (r:Rho) (i:Nat) (x:RB):r.at i x i=some x:=if_pos rfl
theorem Rho.Zy (r:Rho) {i j:Nat} (x:RB) (h:j≠i):r.at i x j=r j:=if_neg h
theorem Rho.JL (r:Rho) {i:Nat} (x:RB) (h:r i=none):r.le (r.at i x):=fun j y e=>by
 by_cases hj:j=i
 ·subst hj; rw [h] at e; cases e
 ·rw [Rho.Zy r x hj]; exact e
theorem Rel.Z7 {r:Rho} {s:St} {w:World} (h:Rel r s w) {i:Nat} (hi:s.next≤i):r i=none:=by
 cases e:r i with
 | none=>rfl
 | some x=>exact absurd (h.known i x e) (by omega)
theorem JZ.at {r:Rho} {i:Nat} {x:RB} {k:Nat} (h:JZ (r.at i x) k):JZ r k∨∃ g,x.gho=some g∧g.Gi k∧k<g.made.heap.size:=by
 obtain ⟨j,y,g,h1,h2,h3⟩:=h
 by_cases hj:j=i
 ·subst hj
  rw [Rho.Zo] at h1
  cases h1
  exact .inr ⟨g,h2,h3⟩
 ·rw [Rho.Zy r x hj] at h1
  exact .inl ⟨j,y,g,h1,h2,h3⟩
theorem JZ.Vm {r:Rho} {i:Nat} {x:RB} {k:Nat} (hx:x.gho=none) (h:JZ (r.at i x) k):JZ r k:=by
 rcases h.at with h | ⟨g,h1,_⟩
 ·exact h
 ·rw [hx] at h1; cases h1
theorem Ext.new {r:Rho} {s:St} {w u:World} (h:Rel r s w) {c:Zd} {x:RB} {o:Obj} (hb:x.blk=w.heap.size)
  (hu:u.heap[x.blk]? = some o) (hr:BR (r.at s.next x) c x o) (hf:∀ k,k<w.heap.size→u.heap[k]? = w.heap[k]?) (hs:w.heap.size≤u.heap.size)
  (ho:u.os=w.os) (ht:u.tape=w.tape) (hp:u.output=w.output) (hgn:x.gho=none:=by rfl):Ext r s w (r.at s.next x) (s.new c) u where
 rel:=by
  have hn:=h.Z7 (Nat.le_refl s.next)
  have Xs:∀ k,Hit (r.at s.next x) (s.new c) k→Hit r s k∨w.heap.size≤k:=fun k ⟨j,d,y,hd,hy,hk⟩=>by
   rw [St.ZB] at hd
   by_cases hj:s.next=j
   ·subst hj
    rw [Rho.Zo] at hy
    cases hy
    exact .inr (by omega)
   ·rw [if_neg hj] at hd
    rw [Rho.Zy r x (Ne.symm hj)] at hy
    exact .inl ⟨j,d,y,hd,hy,hk⟩
  refine ⟨⟨fun j d y hd hy => ?_,fun j hj => ?_⟩,fun j k d e y z hd he hy hz hyz => ?_,fun j y hy => ?_,fun j y g hy hg => ?_⟩
  ·rw [St.ZB] at hd
   by_cases hj:s.next=j
   ·subst hj
    rw [if_pos rfl] at hd
    cases hd
    rw [Rho.Zo] at hy
    cases hy
    exact ⟨o,hu,hr⟩
   ·rw [if_neg hj] at hd
    rw [Rho.Zy r x (Ne.symm hj)] at hy
    obtain ⟨o',h1,h2⟩:=h.block j d y hd hy
    refine ⟨o',?_,h2.mono (r.JL x hn)⟩
    rw [hf y.blk (Array.getElem?_eq_some_iff.1 h1).1]
    exact h1
  ·rw [St.Qg] at hj
   rw [St.ZB,if_neg (by omega)]
   exact h.far j (by omega)
  ·rw [St.ZB] at hd he
   by_cases hj:s.next=j <;> by_cases hk:s.next=k
   ·omega
   ·rw [if_neg hk] at he
    rw [Rho.Zy r x (Ne.symm hk)] at hz
    rw [← hj,Rho.Zo] at hy
    cases hy
    obtain ⟨o',h1,_⟩:=h.block k e z he hz
    have:=(Array.getElem?_eq_some_iff.1 h1).1
    omega
   ·rw [if_neg hj] at hd
    rw [Rho.Zy r x (Ne.symm hj)] at hy
    rw [← hk,Rho.Zo] at hz
    cases hz
    obtain ⟨o',h1,_⟩:=h.block j d y hd hy
    have:=(Array.getElem?_eq_some_iff.1 h1).1
    omega
   ·rw [if_neg hj] at hd
    rw [if_neg hk] at he
    rw [Rho.Zy r x (Ne.symm hj)] at hy
    rw [Rho.Zy r x (Ne.symm hk)] at hz
    exact h.apart j k d e y z hd he hy hz hyz
  ·rw [St.Qg]
   by_cases hj:j=s.next
   ·omega
   ·rw [Rho.Zy r x hj] at hy
    have:=h.known j y hy
    omega
  ·by_cases hj:j=s.next
   ·subst hj
    rw [Rho.Zo] at hy
    cases hy
    rw [hgn] at hg
    cases hg
   ·rw [Rho.Zy r x hj] at hy
    exact (h.safe j y g hy hg).step hs (fun k hk _=>hf k hk) Xs
 le:=r.JL x (h.Z7 (Nat.le_refl s.next))
 next:=by rw [St.Qg]; omega
 os:=ho
 tape:=ht
 output:=hp
 size:=hs
 frame:=fun k hk _=>hf k hk
 still:=fun j hj hn d hd=>by rw [St.ZB,if_neg (by omega)] at hd; exact hd
 dead:=fun j hj hn=>by rw [St.ZB,if_neg (by omega)]; exact hn
 Xs:=fun k ⟨j,d,y,hd,hy,hk⟩=>by
  rw [St.ZB] at hd
  by_cases hj:s.next=j
  ·subst hj
   rw [Rho.Zo] at hy
   cases hy
   exact .inr (by omega)
  ·rw [if_neg hj] at hd
   rw [Rho.Zy r x (Ne.symm hj)] at hy
   exact .inl ⟨j,d,y,hd,hy,hk⟩
 fresh:=fun j hn hp=>by
  by_cases hj:j=s.next
  ·omega
  ·rw [Rho.Zy r x hj] at hp
   exact absurd hn hp
 Kz:=fun k hk => .inl (hk.Vm hgn)
def St.TB (s:St):St:=⟨s.heap,s.next+1⟩
theorem St.YL (s:St) (i:Nat):s.TB.get i=s.get i:=rfl
theorem Ext.gho {r:Rho} {s:St} {w u:World} (h:Rel r s w) {x:RB} (hx:∀ g,x.gho=some g→Safe r s u g) (hft:∀ g,x.gho=some g→∀ k,g.Gi k→k<g.made.heap.size→JZ r k∨w.heap.size≤k)
  (hf:∀ k,k<w.heap.size→u.heap[k]? = w.heap[k]?) (hs:w.heap.size≤u.heap.size) (ho:u.os=w.os) (ht:u.tape=w.tape) (hp:u.output=w.output) :
  Ext r s w (r.at s.next x) s.TB u:=by
 have hn:=h.Z7 (Nat.le_refl s.next)
 have hne:∀ {j d},s.get j=some d→j≠s.next:=fun {j d} hd e=>by
  have:=h.below hd
  omega
 have hits0:∀ k,Hit (r.at s.next x) s.TB k→Hit r s k:=fun k ⟨j,d,y,hd,hy,hk⟩=>by
  rw [St.YL] at hd
  rw [Rho.Zy r x (hne hd)] at hy
  exact ⟨j,d,y,hd,hy,hk⟩
 refine ⟨⟨⟨fun j d y hd hy => ?_,fun j hj => ?_⟩,fun j k d e y z hd he hy hz hyz => ?_,fun j y hy => ?_,fun j y g hy hg => ?_⟩,r.JL x hn,Nat.le_succ _,ho,ht,hp,hs,fun k hk _=>hf k hk,fun j hj hn d hd=>hd,fun j hj hn=>hn,fun k hk => .inl (hits0 k hk),fun j hn2 hq => ?_,fun k hk=>by
  rcases hk.at with h1 | ⟨g,h1,h2,h3⟩
  ·exact .inl h1
  ·exact hft g h1 k h2 h3⟩
 ·rw [St.YL] at hd
  rw [Rho.Zy r x (hne hd)] at hy
  obtain ⟨o',h1,h2⟩:=h.block j d y hd hy
  refine ⟨o',?_,h2.mono (r.JL x hn)⟩
  rw [hf y.blk (Array.getElem?_eq_some_iff.1 h1).1]
  exact h1
 ·rw [St.YL]
  exact h.far j (Nat.le_of_succ_le hj)
 ·rw [St.YL] at hd he
  rw [Rho.Zy r x (hne hd)] at hy
  rw [Rho.Zy r x (hne he)] at hz
  exact h.apart j k d e y z hd he hy hz hyz
 ·show j<s.next+1
  by_cases hj:j=s.next
  ·omega
  ·rw [Rho.Zy r x hj] at hy
   have:=h.known j y hy
   omega
 ·by_cases hj:j=s.next
  ·subst hj
   rw [Rho.Zo] at hy
   cases hy
   exact (hx g hg).step (Nat.le_refl _) (fun _ _ _=>rfl) fun k hk => .inl (hits0 k hk)
  ·rw [Rho.Zy r x hj] at hy
   exact (h.safe j y g hy hg).step hs (fun k hk _=>hf k hk) fun k hk => .inl (hits0 k hk)
 ·by_cases hj:j=s.next
  ·omega
  ·rw [Rho.Zy r x hj] at hq
   exact absurd hn2 hq
end Go.Proofs.YtheflbaejhlboaaGreatDoor.Ev
namespace Go.Proofs.YtheflbaejhlboaaGreatDoor.Ev
open Go
variable [Sig] {P:Program} {r:Rho} {s:St} {w:World}
mutual
theorem TC (r:Rho):∀ (u:Value) (v:Zc),ofV u=some v→VR r v u
 | .bool b,_,h=>by cases h; exact .bool b
 | .int k n,_,h=>by cases h; exact .int k n
 | .float k b,_,h=>by cases h; exact .flt k b
 | .complex k a b,_,h=>by cases h; exact .ZW k a b
 | .string ⟨⟨l⟩⟩,_,h=>by cases h; exact .str l
 | .pointer none,_,h=>by cases h; exact .Zh
 | .pointer (some _),_,h=>by cases h
 | .slice none 0 0,_,h=>by cases h; exact .Za
 | .slice none 0 (_+1),_,h=>by cases h
 | .slice none (_+1) _,_,h=>by cases h
 | .slice (some _) _ _,_,h=>by cases h
 | .map none,_,h=>by cases h; exact .Zk
 | .map (some _),_,h=>by cases h
 | .chan _,_,h=>by cases h
 | .func _ _ _,_,h=>by cases h
 | .nilFunc,_,h=>by cases h; exact .ZH
 | .iface _ _,_,h=>by cases h
 | .nilIface,_,h=>by cases h; exact .nilIface
 | .agg ⟨cs⟩,v,h=>by
  simp only [ofV,Option.map_eq_some_iff] at h
  obtain ⟨l,h1,rfl⟩:=h
  exact .agg (Lr r cs l h1)
 | .tuple ⟨cs⟩,v,h=>by
  simp only [ofV,Option.map_eq_some_iff] at h
  obtain ⟨l,h1,rfl⟩:=h
  exact .tuple (Lr r cs l h1)
theorem Lr (r:Rho):∀ (u:List Value) (v:List Zc),Es u=some v→VRs r v u
 | [],_,h=>by cases h; exact .nil
 | u::us,v,h=>by
  simp only [Es] at h
  split at h
  ·rename_i a ha
   split at h
   ·rename_i l hl
    cases h
    exact .cons (TC r u a ha) (Lr r us l hl)
   ·cases h
  ·cases h
end
mutual
theorem toV_ok (r:Rho):∀ (v:Zc) (u u':Value),toV v=some u→VR r v u'→u'=u
 | .bool b,_,_,h,.bool _=>by cases h; rfl
 | .int k n,_,_,h,.int _ _=>by cases h; rfl
 | .flt k b,_,_,h,.flt _ _=>by cases h; rfl
 | .ZW k a b,_,_,h,.ZW _ _ _=>by cases h; rfl
 | .str l,_,_,h,.str _=>by cases h; rfl
 | .Zh,_,_,h,.Zh=>by cases h; rfl
 | .ptr _ _,_,_,h,_=>by cases h
 | .Za,_,_,h,.Za=>by cases h; rfl
 | .ZX,_,_,h,_=>by cases h
 | .slice _ _ _ _,_,_,h,_=>by cases h
 | .Zk,_,_,h,.Zk=>by cases h; rfl
 | .map _,_,_,h,_=>by cases h
 | .func _ _ _,_,_,h,_=>by cases h
 | .ZH,_,_,h,.ZH=>by cases h; rfl
 | .nilIface,_,_,h,.nilIface=>by cases h; rfl
 | .iface _ _,_,_,h,_=>by cases h
 | .agg l,u,_,h,.agg k=>by
  simp only [toV,Option.map_eq_some_iff] at h
  obtain ⟨x,h1,rfl⟩:=h
  rw [toVs_ok r l x _ h1 k]
 | .tuple l,u,_,h,.tuple k=>by
  simp only [toV,Option.map_eq_some_iff] at h
  obtain ⟨x,h1,rfl⟩:=h
  rw [toVs_ok r l x _ h1 k]
 | .sint _ _ _ _,_,_,h,_=>by cases h
 | .raw _,_,_,h,_=>by cases h
 | .gho _ _,_,_,h,_=>by cases h
theorem toVs_ok (r:Rho):∀ (v:List Zc) (u u':List Value),toVs v=some u→VRs r v u'→u'=u
 | [],_,_,h,.nil=>by cases h; rfl
 | v::vs,u,_,h,.cons k t=>by
  simp only [toVs] at h
  split at h
  ·rename_i a ha
   split at h
   ·rename_i l hl
    cases h
    rw [toV_ok r v a _ ha k,toVs_ok r vs l _ hl t]
   ·cases h
  ·cases h
end
theorem Yf {α : Type}:∀ (x:Sem α) (a : α),Vi P x=some a→x.run P w = .ok a w
 | .pure a,_,h=>by cases h; rfl
 | .load _ _ _,_,h=>by cases h
 | .store _ _ _ _,_,h=>by cases h
 | .new _ _,_,h=>by cases h
 | .shape _ _,_,h=>by cases h
 | .freeze _ _ _,_,h=>by cases h
 | .frozen _ _,_,h=>by cases h
 | .getObj _ _,_,h=>by cases h
 | .setObj _ _ _,_,h=>by cases h
 | .choose _ _,_,h=>by cases h
 | .sys _ _,_,h=>by cases h
 | .program k,a,h=>by
  simp only [Vi] at h
  simp only [Sem.run]
  exact Yf (k P) a h
 | .mark _ k,a,h=>by
  simp only [Vi] at h
  simp only [Sem.run]
  exact Yf k a h
 | .halt _,_,h=>by cases h
theorem Ls {o:Option Zc} {v:Zc} (h:V.ofO o = .ok v):o=some v:=by
 cases o with
 | none=>cases h
 | some u=>cases h; rfl
theorem ZY {s s':St} {x:V} {v:Zc} (h:V.ret s x = .ok v s'):x = .ok v∧s'=s:=by
 cases x with
 | bad=>cases h
 | ok u=>cases h; exact ⟨rfl,rfl⟩
theorem then_ok {s':St} {k:Zc→R} {x:V} {v:Zc} (h:V.then k x = .ok v s'):∃ u,x = .ok u∧k u = .ok v s':=by
 cases x with
 | bad=>cases h
 | ok u=>exact ⟨u,rfl,h⟩
theorem YM {x:Sem Value} {v:Zc} (h:H9 P x = .ok v):∃ u,x.run P w = .ok u w∧VR r v u:=by
 have h1:=Ls h
 rw [Option.bind_eq_some_iff] at h1
 obtain ⟨u,h2,h3⟩:=h1
 exact ⟨u,Yf x u h2,TC r u v h3⟩
theorem run_underlying {t:TypeId} {d:TypeDesc} (h:P.underlying t=some d):(underlying t).run P w = .ok d w:=by
 simp [underlying,h]
theorem run_typeInfo {t:TypeId} {i:TypeInfo} (h:P.info? t=some i):(typeInfo t).run P w = .ok i w:=by
 simp [typeInfo,h]
theorem run_sizeOf {t:TypeId} {n:Nat} (h:Z2 P t=some n):(sizeOf t).run P w = .ok n w:=by
 simp only [Z2,Option.map_eq_some_iff] at h
 obtain ⟨i,h1,rfl⟩:=h
 simp [sizeOf,run_typeInfo h1]
theorem Vn {t:TypeId} {g:Bool} (h:Jq P t=some g):(isAgg t).run P w = .ok g w:=by
 unfold Jq at h
 split at h
 ·rename_i h1; cases h; simp [isAgg,run_underlying h1]
 ·rename_i h1; cases h; simp [isAgg,run_underlying h1]
 ·rename_i d h2 h3 h1
  cases h
  simp only [isAgg,Sem.run_bind,run_underlying h1,Result.andThen_ok]
  cases d <;> first | rfl | exact (h2 _ rfl).elim | exact (h3 _ _ rfl).elim
 ·cases h
theorem Xn {t:TypeId} {z:Zc} (h:XZ P t=some z):∃ i u,P.info? t=some i∧i.zero=some u∧(∀ w,(zeroValue t).run P w = .ok u w)∧∀ r,VR r z u:=by
 unfold XZ at h
 rw [Option.bind_eq_some_iff] at h
 obtain ⟨u,h1,h2⟩:=h
 rw [Option.bind_eq_some_iff] at h1
 obtain ⟨i,h3,h4⟩:=h1
 exact ⟨i,u,h3,h4,fun w=>by simp [zeroValue,run_typeInfo h3,h4],fun r=>TC r u z h2⟩
theorem MP {t:TypeId} {o n:Nat} {g:Bool} (h:Jr P t = .mk o n g):Z2 P t=some n∧Jq P t=some g:=by
 unfold Jr at h
 split at h
 ·rename_i h1 h2; cases h; exact ⟨h1,h2⟩
 ·cases h
theorem QG {t:TypeId} {e n:Nat} {g:Bool} (h:Jf P t = .mk e n g):P.underlying t=some (.slice e)∧Z2 P e=some n∧Jq P e=some g:=by
 unfold Jf at h
 split at h
 ·rename_i e' h0
  split at h
  ·rename_i h1 h2; cases h; exact ⟨h0,h1,h2⟩
  ·cases h
 ·cases h
theorem Dq {t:TypeId} {z:Zc} (h:Le P t=some z):XZ P t=some z∧∃ n,Z2 P t=some n∧z.cells.length=n:=by
 unfold Le at h
 split at h
 ·rename_i z' n h1 h2
  rcases Ze h with ⟨h3,h4⟩ | ⟨_,h4⟩
  ·cases h4
   exact ⟨h1,n,h2,Vk h3⟩
  ·cases h4
 ·cases h
theorem KA {t:TypeId} {z:Zc} (h:JH P t=some z):∃ e,P.underlying t=some (.slice e)∧XZ P e=some z∧∃ n,Z2 P e=some n∧z.cells.length=n:=by
 unfold JH at h
 split at h
 ·rename_i e h0; exact ⟨e,h0,Dq h⟩
 ·cases h
theorem SJ:∀ {l:List Field},Sa P l=true→∀ f∈l,∃ n,Z2 P f.type=some n
 | [],_,_,h=>by cases h
 | f::l,h,g,hg=>by
  simp only [Sa] at h
  split at h
  ·rename_i n hn
   rcases List.mem_cons.1 hg with rfl | hg
   ·exact ⟨n,hn⟩
   ·exact SJ h g hg
  ·cases h
theorem BW {t:TypeId} {z:Zc} (h:SC P t=some z):∃ fs,P.underlying t=some (.struct fs)∧XZ P t=some z∧∀ f∈fs.toList,∃ n,Z2 P f.type=some n:=by
 unfold SC at h
 split at h
 ·rename_i fs h0
  rcases Ze h with ⟨h1,h2⟩ | ⟨_,h2⟩
  ·exact ⟨fs,h0,h2,SJ h1⟩
  ·cases h2
 ·cases h
theorem TD {t:TypeId} {f o n:Nat} {g:Bool} (h:Ki P t f = .mk o n g) :
  ∃ fs x,P.underlying t=some (.struct fs)∧fs[f]? = some x∧x.offset=o∧Z2 P x.type=some n∧Jq P x.type=some g:=by
 unfold Ki at h
 split at h
 ·rename_i fs h0
  split at h
  ·rename_i x h1
   split at h
   ·rename_i h2 h3; cases h; exact ⟨fs,x,h0,h1,rfl,h2,h3⟩
   ·cases h
  ·cases h
 ·cases h
theorem VR.cells:∀ {v:Zc} {u:Value},VR r v u→VRs r v.cells u.cells.toList
 | _,_,.bool b => .cons (.bool b) .nil
 | _,_,.int k n => .cons (.int k n) .nil
 | _,_,.flt k b => .cons (.flt k b) .nil
 | _,_,.ZW k a b => .cons (.ZW k a b) .nil
 | _,_,.str l => .cons (.str l) .nil
 | _,_,.Zh => .cons .Zh .nil
 | _,_,.ptr h => .cons (.ptr h) .nil
 | _,_,.Za => .cons .Za .nil
 | _,_,.ZX a c => .cons (.ZX a c) .nil
 | _,_,.slice h hn hc hu => .cons (.slice h hn hc hu) .nil
 | _,_,.Zk => .cons .Zk .nil
 | _,_,.map h => .cons (.map h) .nil
 | _,_,.func f ha hb => .cons (.func f ha hb) .nil
 | _,_,.ZH => .cons .ZH .nil
 | _,_,.nilIface => .cons .nilIface .nil
 | _,_,.iface t h => .cons (.iface t h) .nil
 | _,_,.agg h=>h
 | _,_,.tuple h => .cons (.tuple h) .nil
 | _,_,.sint k h => .cons (.sint k h) .nil
 | _,_,.raw h => .cons (.raw h) .nil
 | _,_,.gho h hg hu hm=>by
  subst hu
  rename_i g
  have:=g.one
  cases hv:g.val <;> rw [hv] at hm this <;> first | (cases this; done) | exact .cons (.gho h hg hv hm) .nil
theorem VR.one:∀ {v:Zc} {u:Value},VR r v u→Ri v=true→u.oneCell'=true
 | _,_,.bool b,_=>rfl
 | _,_,.int k n,_=>rfl
 | _,_,.flt k b,_=>rfl
 | _,_,.ZW k a b,_=>rfl
 | _,_,.str l,_=>rfl
 | _,_,.Zh,_=>rfl
 | _,_,.ptr h,_=>rfl
 | _,_,.Za,_=>rfl
 | _,_,.ZX a c,_=>rfl
 | _,_,.slice h hn hc hu,_=>rfl
 | _,_,.Zk,_=>rfl
 | _,_,.map h,_=>rfl
 | _,_,.func f ha hb,_=>rfl
 | _,_,.ZH,_=>rfl
 | _,_,.nilIface,_=>rfl
 | _,_,.iface t h,_=>rfl
 | _,_,.sint k h,_=>rfl
 | _,_,.raw h,_=>rfl
 | _,_,.gho h hg hu hm,_=>by subst hu; exact Gh.one _
theorem VRs.ZcG:∀ {l:List Zc} {l':List Value},VRs r l l'→(∀ v∈l,Ri v=true)→∀ u∈l',u.oneCell'=true
 | _,_,.nil,_,u,hu=>by cases hu
 | _,_,.cons h t,ho,u,hu=>by
  rcases List.mem_cons.1 hu with rfl | hu
  ·exact h.one (ho _ (List.mem_cons_self ..))
  ·exact VRs.ZcG t (fun v hv=>ho v (List.mem_cons_of_mem _ hv)) u hu
def upd (w:World) (b:Nat) (o:Obj):World:={ w with heap:=w.heap.setIfInBounds b o }
theorem KD {b:Nat} {o o':Obj} (h:w.heap[b]? = some o'):(upd w b o).heap[b]? = some o:=by
 have:=(Array.getElem?_eq_some_iff.1 h).1
 simp [upd,this]
theorem SM {b k:Nat} (o:Obj) (h:k≠b):(upd w b o).heap[k]? = w.heap[k]? := by
 simp [upd,Array.getElem?_setIfInBounds_ne (Ne.symm h)]
theorem WH (b:Nat) (o:Obj):(upd w b o).heap.size=w.heap.size:=by simp [upd]
theorem ZcH (b:Nat) (o o':Obj):upd (upd w b o) b o'=upd w b o':=by simp [upd]
theorem E5 {b:Nat} {o:Obj} (h:w.heap[b]? = some o):upd w b o=w:=by
 obtain ⟨h1,h2⟩:=Array.getElem?_eq_some_iff.1 h
 have:w.heap.setIfInBounds b o=w.heap:=by
  apply Array.ext
  ·simp
  ·intro i hi1 hi2
   rw [Array.getElem_setIfInBounds]
   split
   ·rename_i e; subst e; exact h2.symm
   ·rfl
 simp [upd,this]
theorem Gk {b i:Nat} {L:List Value} {t:TypeId} {fr:Nat×Nat} {v:Value} (h:w.heap[b]? = some (.cells ⟨L⟩ t fr)) :
  w.setCell ⟨b,i,none⟩ v=upd w b (.cells ⟨L.set i v⟩ t fr):=by
 have h1:=(Array.getElem?_eq_some_iff.1 h).1
 have:w.heap.modify b (fun
   | .cells c elem frozen => .cells (if (none:Option Nat).isSome then c else c.setIfInBounds i v) elem frozen
   | o=>o)=w.heap.setIfInBounds b (.cells ⟨L.set i v⟩ t fr):=by
  apply Array.ext
  ·simp
  ·intro k hk1 hk2
   rw [Array.getElem_modify,Array.getElem_setIfInBounds]
   split
   ·rename_i e
    subst e
    have h2:=(Array.getElem?_eq_some_iff.1 h).2
    rw [h2]
    simp
   ·rfl
 exact congrArg (fun a=>({ w with heap:=a }:World)) this
theorem cell_of {b i:Nat} {L:List Value} {t:TypeId} {fr:Nat×Nat} (h:w.heap[b]? = some (.cells ⟨L⟩ t fr)):w.cell? ⟨b,i,none⟩=L[i]? := by
 simp [World.cell?,h]
theorem BX {b i:Nat} {L:List Value} {t:TypeId} {fr:Nat×Nat} (h:w.heap[b]? = some (.cells ⟨L⟩ t fr)) (hf:¬ (fr.1≤i∧i<fr.2)):w.frozen? ⟨b,i,none⟩=false:=by
 obtain ⟨lo,hi⟩:=fr
 simp only [World.frozen?,h]
 simp only at hf
 by_cases h1:lo≤i
 ·have:¬ i<hi:=fun e=>hf ⟨h1,e⟩
  simp [this]
 ·simp [h1]
theorem JM (b o n:Nat):(⟨b,o,none⟩:Addr).add n=⟨b,o+n,none⟩:=by
 unfold Addr.add
 split
 ·rename_i h; subst h; rfl
 ·rfl
theorem JN {b off:Nat} {t:TypeId} {fr:Nat×Nat}:∀ (vs:List Value) (i:Nat) (L:List Value) (w:World),w.heap[b]? = some (.cells ⟨L⟩ t fr) →
  off+i+vs.length≤L.length→(∀ k,k<L.length→¬ (fr.1≤k∧k<fr.2))→(∀ u∈vs,u.oneCell'=true) →
  (storeCells ⟨b,off,none⟩ vs i).run P w = .ok () (upd w b (.cells ⟨L.take (off+i)++(vs++L.drop (off+i+vs.length))⟩ t fr))
 | [],i,L,w,h,_,_,_=>by
  simp only [storeCells,List.nil_append,List.length_nil,Nat.add_zero,List.take_append_drop]
  rw [E5 h]
  rfl
 | v::vs,i,L,w,h,hl,hf,h1=>by
  have hi:off+i<L.length:=by simp only [List.length_cons] at hl; omega
  have hst:(store ((⟨b,off,none⟩:Addr).add i) v).run P w = .ok () (upd w b (.cells ⟨L.set (off+i) v⟩ t fr)):=by
   rw [JM,run_store P w _ v _ (h1 v (List.mem_cons_self ..)),cell_of h,List.getElem?_eq_getElem hi]
   simp only [BX h (hf _ hi)]
   rw [Gk h]
   rfl
  have ih:=JN (off:=off) vs (i+1) (L.set (off+i) v) (upd w b (.cells ⟨L.set (off+i) v⟩ t fr)) (KD h)
   (by simp only [List.length_set,List.length_cons] at hl ⊢; omega) (by simpa using hf) (fun u hu=>h1 u (List.mem_cons_of_mem _ hu))
  simp only [storeCells,Sem.run_bind,hst,Result.andThen_ok]
  rw [ih,ZcH]
  congr 4
  rw [show off+(i+1)=off+i+1 by omega,List.take_add_one,List.getElem?_set_self hi,List.take_set_of_le (Nat.le_refl _),List.drop_set_of_lt (by omega)]
  simp only [Option.toList_some,List.length_cons,List.append_assoc,List.singleton_append,List.cons_append]
  rw [List.nil_append,show off+i+(vs.length+1)=off+i+1+vs.length by omega]
theorem Jh {b off n:Nat} {L:List Value} {t:TypeId} {fr:Nat×Nat} (h:w.heap[b]? = some (.cells ⟨L⟩ t fr)) (hl:off+n≤L.length) :
  (loadCells ⟨b,off,none⟩ n).run P w = .ok ⟨(L.drop off).take n⟩ w:=by
 have hn:((L.drop off).take n).length=n:=by simp; omega
 have:=run_loadCells_list (P:=P) w ⟨b,off,none⟩ ((L.drop off).take n) (fun j v hj=>by
  rw [JM,cell_of h]
  rw [List.getElem?_take] at hj
  split at hj
  ·rwa [List.getElem?_drop] at hj
  ·cases hj)
 rw [hn] at this
 exact this
theorem ZL {id:Nat} {cs:List Zc} {e:Nat} {o:Bool} (h:s.ZQ id = .mk cs e o):s.get id=some (.cells cs e o):=by
 unfold St.ZQ at h
 cases hb:s.get id with
 | none=>rw [hb] at h; cases h
 | some b =>
  rw [hb] at h
  cases b with
  | cells cs' e' o'=>cases h; rfl
  | map es c=>cases h
  | mapIter m a b c=>cases h
theorem JO {id:Nat} {es:List Entry} {c:Nat} (h:s.JI id = .mk es c):s.get id=some (.map es c):=by
 unfold St.JI at h
 cases hb:s.get id with
 | none=>rw [hb] at h; cases h
 | some b =>
  rw [hb] at h
  cases b with
  | cells cs' e' o'=>cases h
  | map es c=>cases h; rfl
  | mapIter m a b c=>cases h
theorem VRs.range {l:List Zc} {vs rest:List Value} (h:VRs r l vs) {off n:Nat} (hl:off+n≤l.length):VRs r ((l.drop off).take n) (((vs++rest).drop off).take n):=by
 have hlen:=h.length
 rw [List.drop_append_of_le_length (by omega),List.take_append_of_le_length (by simp; omega)]
 exact (h.drop off).take n
theorem Gl {cs:List Zc} {vs rest:List Value} (h:VRs r cs vs) {off n:Nat} {g:Bool} {v:Zc} (hp:SD cs off n g = .ok v) :
  off+n≤cs.length∧((g=true∧VR r v (.agg ⟨((vs++rest).drop off).take n⟩))∨(g=false∧n=1∧∃ u,(vs++rest)[off]? = some u∧VR r v u)):=by
 unfold SD at hp
 rcases Ze hp with ⟨hg,h1⟩ | ⟨hg,h1⟩
 ·cases hs:sub cs off n with
  | none=>rw [hs] at h1; cases h1
  | some l =>
   rw [hs] at h1
   cases h1
   obtain ⟨h2,rfl⟩:=sub_eq hs
   exact ⟨h2,.inl ⟨hg,.agg (h.range h2)⟩⟩
 ·rcases Ze h1 with ⟨hn,h2⟩ | ⟨_,h2⟩
  ·have hn1:=Nat.eq_of_beq_eq_true hn
   have h3:=YK off h2
   have h4:off<cs.length:=(List.getElem?_eq_some_iff.1 h3).1
   obtain ⟨u,h5,h6⟩:=h.get h3
   refine ⟨by omega,.inr ⟨hg,hn1,u,?_,h6⟩⟩
   rw [List.getElem?_append_left (by rw [h.length]; exact h4)]
   exact h5
  ·cases h2
theorem Gm (h:RelB r s w) {id off:Nat} {x:RB} (hx:r id=some x) {cs:List Zc} {e:Nat} {o:Bool} (hc:s.ZQ id = .mk cs e o)
  {t:TypeId} {n:Nat} {g:Bool} (hs:Z2 P t=some n) (hg:Jq P t=some g) {v:Zc} (hp:SD cs off n g = .ok v) :
  ∃ u,(loadVar t ⟨x.blk,off,none⟩).run P w = .ok u w∧VR r v u:=by
 obtain ⟨ob,hb,hr⟩:=h.block id _ x (ZL hc) hx
 obtain ⟨_,vs,rest,et,fr,rfl,hvs,hlen,_,_⟩:=hr
 obtain ⟨h1,h2⟩:=Gl (rest:=rest) hvs hp
 have hcl:=hvs.length
 rcases h2 with ⟨rfl,h2⟩ | ⟨rfl,rfl,u,h2,h3⟩
 ·refine ⟨_,?_,h2⟩
  simp only [loadVar,Sem.run_bind,Vn hg,Result.andThen_ok,if_true,run_sizeOf hs]
  rw [Jh hb (by simp; omega)]
  rfl
 ·refine ⟨u,?_,h3⟩
  simp only [loadVar,Sem.run_bind,Vn hg,Result.andThen_ok,Bool.false_eq_true,if_false,run_load,cell_of hb,h2]
theorem Lt (h:Rel r s w) {id off:Nat} {x:RB} (hx:r id=some x) {cs:List Zc} {e:Nat} {o:Bool} (hc:s.ZQ id = .mk cs e o)
  {t:TypeId} {n:Nat} (hs:Z2 P t=some n) {v:Zc} {u:Value} (hv:VR r v u) (hn:Kj v.cells n=true) {cs':List Zc} (hp:splice cs off v.cells=some cs') :
  ∃ w',(storeVar t ⟨x.blk,off,none⟩ u).run P w = .ok () w'∧Ext r s w r (s.put id (.cells cs' e o)) w':=by
 obtain ⟨ob,hb,hr⟩:=h.block id _ x (ZL hc) hx
 obtain ⟨he,vs,rest,et,fr,rfl,hvs,hlen,hop,hfr⟩:=hr
 obtain ⟨h1,rfl,h3⟩:=Ky hp
 have hcl:=hvs.length
 have hvc:=hv.cells
 have hul:=hvc.length
 have hvl:=Vk hn
 have hsz:u.cells.size=n:=by rw [← Array.length_toList,hul,hvl]
 refine ⟨upd w x.blk (.cells ⟨(vs++rest).take off++(u.cells.toList++(vs++rest).drop (off+u.cells.toList.length))⟩ et fr),?_,Ext.put h (ZL hc) hx (KD hb) ?_ (fun k hk=>SM _ hk) (WH _ _) rfl rfl rfl⟩
 ·simp only [storeVar,Sem.run_bind,run_sizeOf hs,Result.andThen_ok,hsz,ne_eq,not_true_eq_false,if_false]
  exact JN u.cells.toList 0 (vs++rest) w hb (by simp only [List.length_append,Nat.add_zero]; omega) (fun k hk=>hfr k (by rw [← hlen]; exact hk)) (hvc.ZcG h3)
 ·refine ⟨he,vs.take off++(u.cells.toList++vs.drop (off+u.cells.toList.length)),rest,et,fr,?_,(hvs.take off).append (hvc.append ?_),?_,hop,hfr⟩
  ·rw [List.take_append_of_le_length (by omega),List.drop_append_of_le_length (by omega)]
   simp
  ·rw [hul]
   exact hvs.drop _
  ·rw [← hlen]
   simp only [List.length_append,List.length_take,List.length_drop]
   omega
theorem MQ (w:World) (o:Obj):(w.alloc o).heap[w.heap.size]? = some o:=by
 show (w.heap.push o)[w.heap.size]? = _
 simp
theorem alloc_old (o:Obj) {k:Nat} (h:k<w.heap.size):(w.alloc o).heap[k]? = w.heap[k]? := by
 show (w.heap.push o)[k]? = _
 rw [Array.getElem?_push,if_neg (by omega)]
end Go.Proofs.YtheflbaejhlboaaGreatDoor.Ev
