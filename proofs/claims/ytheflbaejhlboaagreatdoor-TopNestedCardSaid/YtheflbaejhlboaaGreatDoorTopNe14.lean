/- Lemmas for a law of confluencetop. -/
import Derived.Test.YtheflbaejhlboaaGreatDoorTopNe13
set_option linter.all false
namespace Go.Proofs.YtheflbaejhlboaaGreatDoor
open Tryz
section
open Go
theorem Rh (S:List (List Vl×Int)) (r:List Vl):nf (Jp S) r = - nf S r:=by
 induction S with
 | nil=>rfl
 | cons p S ih =>
  show nf ((p.1,-p.2)::Jp S) r=_;rw [nf,nf,ih];split <;> omega
theorem Su (S:List (List Vl×Int)):ZN (Zj (Jp S))=ZN (Zj S):=by
 induction S with
 | nil=>rfl
 | cons p S ih =>
  show ZN (ZB (p.1,-p.2)::Zj (Jp S))=ZN (ZB p::Zj S);rw [ZN,ZN,ih];unfold ZB;simp only;omega
theorem Sm.flip {S:List (List Vl×Int)} (h:Sm S):Sm (Jp S) where
 set:=by
  refine ⟨fun p hp => ?_,fun p hp => ?_,?_⟩
  ·obtain ⟨q,hq,rfl⟩:=List.mem_map.1 hp;exact h.set.row q hq
  ·obtain ⟨q,hq,rfl⟩:=List.mem_map.1 hp;have:=h.set.net q hq;simp only;omega
  ·unfold Jp;rw [List.pairwise_map];exact h.set.ord
 few:=by unfold Jp; rw [List.length_map]; exact h.few
 sum:=by rw [Su]; exact h.sum
theorem Sv (lim:Int):∀ (l:List Itm) (n:Int),n+ZN l<lim->Kp lim l n=false
 | [],_,_=>rfl
 | x::l,n,h=>by
  rw [ZN] at h;have hx:x.net<=(x.a:Int):=by unfold Itm.net; omega
  rw [Kp,if_neg (by omega)];exact Sv lim l _ (by omega)
namespace Ev
noncomputable section
def ZkD (s:St) (o:Option Bool):R:=match o with
 | some b => .ok (.bool b) s
 | none => .bad
def uN (T:Nat->Option Bool) (args:List Zb) (s:St):R:=match args with
 | [.gho _ a]=>ZkD s (T a)
 | _ => .bad
def Ri (T:Nat->Option Bool):Orc:=⟨uN T⟩
end
section
variable [Sig] {M:Nat->Mn} (hM:Sig.Q8=QK M)
theorem Ext.same {r:Rho} {s:St} {w w':World} (hr:Rel r s w) (hc:Chg (fun _=>False) w w'):Ext r s w r s w' :=
 (Ext.refl hr).grow (fun k hk=>hc.block k hk fun h=>h) hc.size hc.os hc.tape hc.output
include hM
theorem H4 {f:FuncId} {T:Nat->Option Nat} (hT:∀ a c,T a=some c->∃ S S',M a = .set S/\M c = .set S'/\Sm S' /\
   ∀ (F:Nat->Prop) (w:World) (v:Value),Sm S->Zp F w v (Zj S)->Calls prog f #[v] w (Neu w fun u w'=>Zp (new w) w' u (Zj S')))
  {fn:Func} {b:Code} (hf:prog.funcs[f]? = some fn) (hname:(fn.name== "runtime.NumGoroutine")=false) (hb:fn.body=some b):Qe prog f (Zdl T):=by
 intro args s v s' h r w us hr hv;have h:ui T args s = .ok v s':=h;unfold ui at h;split at h
 ·rename_i i a _;cases hv with
  | cons hx ht =>
   cases ht;cases hc:T a with
   | none=>rw [hc] at h; cases h
   | some c =>
    rw [hc] at h;cases h;obtain ⟨S,S',m1,m2,hs,hcall⟩:=hT a c hc;obtain ⟨z1,a1⟩:=XJ hM hr hx m1;refine Xh hf hname hb ((hcall _ _ _ z1 a1).mono ?_);rintro _ w' ⟨u,rfl,h4,h5⟩;obtain ⟨q,e1,e2⟩:=Me hM hr h5 (fun k hk _ => .inr hk) m2 hs h4;exact ⟨_,rfl,q,e1,e2⟩
 ·cases h
theorem W0 {f:FuncId} {T:Nat->Option Bool} (hT:∀ a c,T a=some c->∃ S,M a = .set S /\
   ∀ (F:Nat->Prop) (w:World) (v:Value),Sm S->Zp F w v (Zj S)->Calls prog f #[v] w fun e w'=>e = .returned (.bool c)/\Chg (fun _=>False) w w')
  {fn:Func} {b:Code} (hf:prog.funcs[f]? = some fn) (hname:(fn.name== "runtime.NumGoroutine")=false) (hb:fn.body=some b):Qe prog f (Ri T):=by
 intro args s v s' h r w us hr hv;have h:uN T args s = .ok v s':=h;unfold uN at h;split at h
 ·rename_i i a _;cases hv with
  | cons hx ht =>
   cases ht;cases hc:T a with
   | none=>rw [hc] at h; cases h
   | some c =>
    rw [hc] at h;cases h;obtain ⟨S,m1,hcall⟩:=hT a c hc;obtain ⟨z1,a1⟩:=XJ hM hr hx m1;refine Xh hf hname hb ((hcall _ _ _ z1 a1).mono ?_);rintro _ w' ⟨rfl,h5⟩;exact ⟨_,rfl,r,Ext.same hr h5,.bool _⟩
 ·cases h
theorem Uz {T:Nat->Option Nat} (hT:∀ a c,T a=some c->∃ S S',M a = .set S/\M c = .set S'/\Sm S/\Sm S'/\∀ r,nf S' r = - nf S r)
  {fn:Func} {b:Code} (hf:prog.funcs[113]? = some fn) (hname:(fn.name== "runtime.NumGoroutine")=false) (hb:fn.body=some b):Qe prog 113 (Zdl T) :=
 H4 hM (fun a c h=>by
  obtain ⟨S,S',m1,m2,hs1,hs,h1⟩:=hT a c h;have e:S'=Jp S:=ZP.uniq hs.set hs1.flip.set fun r=>by rw [h1,Rh]
  exact ⟨S,S',m1,m2,hs,fun F w v hz ha=>by subst e; exact Cy ha hz.zr (by have:=hz.few; omega)⟩) hf hname hb
theorem UB {T:Nat->Option Nat} (hT:∀ a c,T a=some c->∃ S,M a = .set S/\M c = .set S/\Sm S)
  {fn:Func} {b:Code} (hf:prog.funcs[40]? = some fn) (hname:(fn.name== "runtime.NumGoroutine")=false) (hb:fn.body=some b):Qe prog 40 (Zdl T) :=
 H4 hM (fun a c h=>by
  obtain ⟨S,m1,m2,hs⟩:=hT a c h
  exact ⟨S,S,m1,m2,hs,fun F w v hz ha=>DL ha (by rw [Zu]; have:=hz.few; omega)⟩) hf hname hb
theorem Cz {T:Nat->Option Bool} (hT:∀ a c,T a=some c->c=true/\∃ S,M a = .set S)
  {fn:Func} {b:Code} (hf:prog.funcs[172]? = some fn) (hname:(fn.name== "runtime.NumGoroutine")=false) (hb:fn.body=some b):Qe prog 172 (Ri T) :=
 W0 hM (fun a c h=>by
  obtain ⟨rfl,S,m1⟩:=hT a c h
  exact ⟨S,m1,fun F w v hz ha=>J9 ha hz.zr⟩) hf hname hb
theorem CB {T:Nat->Option Bool} (hT:∀ a c,T a=some c->c=true/\∃ S,M a = .set S/\∀ p∈S,0<=p.2)
  {fn:Func} {b:Code} (hf:prog.funcs[161]? = some fn) (hname:(fn.name== "runtime.NumGoroutine")=false) (hb:fn.body=some b):Qe prog 161 (Ri T) :=
 W0 hM (fun a c h=>by
  obtain ⟨rfl,S,m1,h1⟩:=hT a c h
  exact ⟨S,m1,fun F w v hz ha=>TR ha hz.zr h1⟩) hf hname hb
theorem CD {T:Nat->Option Bool} (hT:∀ a c,T a=some c->c=false/\∃ S,M a = .set S/\ZN (Zj S)<513)
  {fn:Func} {b:Code} (hf:prog.funcs[183]? = some fn) (hname:(fn.name== "runtime.NumGoroutine")=false) (hb:fn.body=some b):Qe prog 183 (Ri T) :=
 W0 hM (fun a c h=>by
  obtain ⟨rfl,S,m1,h1⟩:=hT a c h
  exact ⟨S,m1,fun F w v hz ha=>by
   have h2:=DK ha (by rw [Zu]; have:=hz.few; omega);rw [Sv _ _ _ (by omega)] at h2
   exact h2⟩) hf hname hb
theorem CE {T:Nat->Option Bool} (hT:∀ a c,T a=some c->c=false/\∃ S,M a = .set S/\ZN (Zj S)<64)
  {fn:Func} {b:Code} (hf:prog.funcs[167]? = some fn) (hname:(fn.name== "runtime.NumGoroutine")=false) (hb:fn.body=some b):Qe prog 167 (Ri T) :=
 W0 hM (fun a c h=>by
  obtain ⟨rfl,S,m1,h1⟩:=hT a c h
  exact ⟨S,m1,fun F w v hz ha=>by
   have h2:=DJ ha (by rw [Zu]; have:=hz.few; omega);rw [Sv _ _ _ (by omega)] at h2
   exact h2⟩) hf hname hb
end
end Ev
end
section
open Go.RowKit
def Np:List (List UInt8)->List (List UInt8)
 | []=>[]
 | x::l=>if x∈l then Np l else x::Np l
theorem Xj {k:List UInt8}:∀ {l:List (List UInt8)},k∈Np l↔k∈l
 | []=>Iff.rfl
 | x::l=>by
  rw [Np];split
  ·rename_i h;rw [Xj,List.mem_cons];exact ⟨.inr,fun h2=>h2.elim (fun e=>e▸h) id⟩
  ·rw [List.mem_cons,List.mem_cons,Xj]
theorem QT:∀ l:List (List UInt8),(Np l).Nodup
 | []=>List.nodup_nil
 | x::l=>by
  rw [Np];split
  ·exact QT l
  ·rename_i h;exact List.nodup_cons.2 ⟨fun h2=>h (Xj.1 h2),QT l⟩
theorem Rj:∀ l:List (List UInt8),(Np l).length<=l.length
 | []=>Nat.le_refl _
 | x::l=>by
  rw [Np];have:=Rj l;split
  ·exact Nat.le_succ_of_le this
  ·simpa using this
def Qz (ks:List Nat) (T:ZS):List (List UInt8):=Np (T.map fun p=>nmR ks p.1)
theorem Yv {ks:List Nat} {T:ZS} {k:List UInt8}:k∈Qz ks T↔∃ p∈T,nmR ks p.1=k:=by
 unfold Qz;rw [Xj,List.mem_map]
theorem JX {ks:List Nat} {T:ZS} {k:List UInt8}:ZH ks T k=[]↔k∉Qz ks T:=by
 rw [Yv];constructor
 ·rintro h ⟨p,hp,e⟩;have:p∈ZH ks T k:=ZI.2 ⟨hp,e⟩;rw [h] at this;cases this
 ·intro h;refine List.eq_nil_iff_forall_not_mem.2 fun p hp => ?_;obtain ⟨h1,h2⟩:=ZI.1 hp;exact h ⟨p,h1,h2⟩
def it1 (ks:List Nat) (fs:List (ByteArray×Nat)) (T:ZS) (k:List UInt8):List Itm:=if ZH ks T k=[] then [] else [⟨ZV ks fs T k,1,0⟩]
def J5 (ks:List Nat) (fs:List (ByteArray×Nat)) (T:ZS):ZS:=(Qz ks T).foldl (fun S k=>ZO (ZV ks fs T k) 1 S) []
theorem W1 {L N:List (List UInt8)} (hL:L.Nodup) (hN:N.Nodup) (h:∀ k∈N,k∈L):L.Perm (N++L.filter fun k=>decide (k∉N)):=by
 refine (List.perm_ext_iff_of_nodup hL ?_).2 fun k => ?_
 ·rw [List.nodup_append];refine ⟨hN,hL.filter _,fun a ha b hb e => ?_⟩;subst e;have:=(List.mem_filter.1 hb).2;simp at this;exact this ha
 ·rw [List.mem_append,List.mem_filter];by_cases hk:k∈N
  ·simp [hk,h k hk]
  ·simp [hk]
theorem Nq (f:List UInt8->List Itm) (r:List Vl):∀ L:List (List UInt8),(∀ k∈L,Qf (f k) r=0)->Qf (L.flatMap f) r=0
 | [],_=>rfl
 | k::L,h=>by
  rw [List.flatMap_cons,Z2,h k List.mem_cons_self,Nq f r L fun x hx=>h x (List.mem_cons_of_mem _ hx)];rfl
theorem Y2 (f g d:List UInt8->List Itm) (r:List Vl):∀ L:List (List UInt8),(∀ k∈L,Qf (f k) r=Qf (g k) r+Qf (d k) r)->Qf (L.flatMap f) r=Qf (L.flatMap g) r+Qf (L.flatMap d) r
 | [],_=>rfl
 | k::L,h=>by
  rw [List.flatMap_cons,List.flatMap_cons,List.flatMap_cons,Z2,Z2,Z2,h k List.mem_cons_self,Y2 f g d r L fun x hx=>h x (List.mem_cons_of_mem _ hx)];omega
theorem Yw {f:List UInt8->List Itm} {L N:List (List UInt8)} (hL:L.Nodup) (hN:N.Nodup) (h:∀ k∈N,k∈L) (r:List Vl) (h0:∀ k∈L,k∉N->Qf (f k) r=0):Qf (L.flatMap f) r=Qf (N.flatMap f) r:=by
 have h1:=Nq f r (L.filter fun k=>decide (k∉N)) fun k hk=>by
  obtain ⟨h1,h2⟩:=List.mem_filter.1 hk;exact h0 k h1 (by simpa using h2)
 rw [Sw (List.Perm.flatMap_right f (W1 hL hN h)) r,List.flatMap_append,Z2,h1];omega
theorem Nr (t:List UInt8->List Vl) (r:List Vl):∀ (L:List (List UInt8)) (S:Zs),nf (L.foldl (fun S k=>ZO (t k) 1 S) S) r=nf S r+Qf (L.flatMap fun k=>[⟨t k,1,0⟩]) r
 | [],S=>by simp [Qf]
 | k::L,S=>by
  rw [List.foldl_cons,Nr t r L,Kg,List.flatMap_cons,Z2];have:Qf [(⟨t k,1,0⟩:Itm)] r=if t k=r then 1 else 0:=by simp [Qf,Itm.net]
  rw [this];omega
theorem Y3 (t:List UInt8->List Vl):∀ (L:List (List UInt8)) {S:Zs} {n:Nat},(∀ k∈L,Zi (t k)=true)->Bd n S->Bd (n+L.length) (L.foldl (fun S k=>ZO (t k) 1 S) S)
 | [],S,n,_,h=>h
 | k::L,S,n,hr,h=>by
  rw [List.foldl_cons];have:=Y3 t L (n:=n+1) (fun x hx=>hr x (List.mem_cons_of_mem _ hx)) (h.ZO (hr k List.mem_cons_self) (.inl rfl));rw [List.length_cons,show n+(L.length+1)=n+1+L.length by omega];exact this
theorem Mh (ks:List Nat) (fs:List (ByteArray×Nat)) (T:ZS) (r:List Vl):nf (J5 ks fs T) r=Qf ((Qz ks T).flatMap (it1 ks fs T)) r:=by
 unfold J5;rw [Nr]
 have:((Qz ks T).flatMap fun k=>[(⟨ZV ks fs T k,1,0⟩:Itm)])=(Qz ks T).flatMap (it1 ks fs T):=by
  have key:∀ L:List (List UInt8),(∀ k∈L,k∈Qz ks T)->(L.flatMap fun k=>[(⟨ZV ks fs T k,1,0⟩:Itm)])=L.flatMap (it1 ks fs T):=by
   intro L
   induction L with
   | nil=>intro _; rfl
   | cons k L ih =>
    intro h;have h1:it1 ks fs T k=[⟨ZV ks fs T k,1,0⟩]:=if_neg fun e=>(JX.1 e) (h k List.mem_cons_self)
    rw [List.flatMap_cons,List.flatMap_cons,ih fun x hx=>h x (List.mem_cons_of_mem _ hx),h1]
  exact key _ fun _ h=>h
 rw [this];show 0+_=_;omega
def Vj (A:Zs):Zs->Zs
 | []=>A
 | p::B=>ZO p.1 p.2 (Vj A B)
theorem Ns (A:Zs) (r:List Vl):∀ B:Zs,nf (Vj A B) r=nf A r+nf B r
 | []=>by show _=_+(0:Int); rw [Vj]; omega
 | p::B=>by rw [Vj,Kg,Ns A r B,nf]; omega
theorem Nt {A:Zs} (hA:ZP A):∀ {B:Zs},ZP B->ZP (Vj A B)
 | [],_=>hA
 | p::B,h=>Mg (h.row p List.mem_cons_self) (h.net p List.mem_cons_self) (Nt hA h.tail)
theorem Sx (A:Zs):∀ B:Zs,(Vj A B).length<=A.length+B.length
 | []=>Nat.le_refl _
 | p::B=>by
  have h1:=No p.1 p.2 (Vj A B);have h2:=Sx A B;rw [Vj,List.length_cons];omega
theorem Tt (A:Zs):∀ B:Zs,ZN (Zj (Vj A B))<=ZN (Zj A)+ZN (Zj B)
 | []=>Nat.le_refl _
 | p::B=>by
  have h1:=Sq p.1 p.2 (Vj A B);have h2:=Tt A B;rw [Vj,JW];omega
def KT (ks:List Nat) (fs:List (ByteArray×Nat)) (T T':ZS):Zs:=Vj (Jp (J5 ks fs T)) (J5 ks fs T')
section
variable {ks:List Nat} {fs:List (ByteArray×Nat)} {T:ZS} (h:FIn ks fs T) (hr:∀ k,ZH ks T k≠[]->Zi (ZV ks fs T k)=true) {n:Nat} (hn:(Qz ks T).length<=n)
include hr hn
theorem EY:Bd n (J5 ks fs T):=by
 have h1:=Y3 (ZV ks fs T) (Qz ks T) (S:=[]) (n:=0) (fun k hk=>hr k fun e=>JX.1 e hk) Bd.nil;rw [Nat.zero_add] at h1;exact h1.mono hn
end
theorem EZ {ks:List Nat} {fs:List (ByteArray×Nat)} {T T':ZS} {Dn:List (List UInt8)} (hD:Dn.Nodup) (hs:∀ k,k∉Dn->ZH ks T' k=ZH ks T k) (r:List Vl) :
  nf (KT ks fs T T') r=Qf (Dn.flatMap (Q4 (ZH ks T) (ZH ks T') (ZV ks fs T) (ZV ks fs T'))) r:=by
 unfold KT;rw [Ns,Rh,Mh,Mh];have hL:=QT (Qz ks T++(Qz ks T'++Dn))
 have e1:=Yw (f:=it1 ks fs T) (N:=Qz ks T) hL (QT _) (fun k hk=>Xj.2 (List.mem_append_left _ hk)) r fun k _ hk=>by
  unfold it1; rw [if_pos (JX.2 hk)]; rfl
 have e2:=Yw (f:=it1 ks fs T') (N:=Qz ks T') hL (QT _) (fun k hk=>Xj.2 (List.mem_append_right _ (List.mem_append_left _ hk))) r fun k _ hk=>by
  unfold it1; rw [if_pos (JX.2 hk)]; rfl
 have hit:∀ k,Qf (it1 ks fs T' k) r=Qf (it1 ks fs T k) r+Qf (Q4 (ZH ks T) (ZH ks T') (ZV ks fs T) (ZV ks fs T') k) r:=fun k=>by
  unfold it1 Q4;rw [Z2];by_cases h1:ZH ks T k=[] <;> by_cases h2:ZH ks T' k=[] <;> simp only [h1,h2,if_true,if_false,Qf,Itm.net,reduceCtorEq] <;> (repeat' split) <;> omega
 have e3:=Yw (f:=Q4 (ZH ks T) (ZH ks T') (ZV ks fs T) (ZV ks fs T')) hL hD (fun k hk=>Xj.2 (List.mem_append_right _ (List.mem_append_right _ hk))) r fun k _ hk=>by
  have h1:=hit k
  have h2:it1 ks fs T' k=it1 ks fs T k:=by
   have h3:ZV ks fs T' k=ZV ks fs T k:=by unfold ZV; rw [hs k hk]
   unfold it1;rw [hs k hk,h3]
  rw [h2] at h1;omega
 have e4:=Y2 (it1 ks fs T') (it1 ks fs T) (Q4 (ZH ks T) (ZH ks T') (ZV ks fs T) (ZV ks fs T')) r (Np (Qz ks T++(Qz ks T'++Dn))) fun k _=>hit k;rw [e1,e2,e3] at e4;omega
end
section
open Go.RowKit
theorem CF {a b:List Vl} (ha:Zi a=true) (hb:Zi b=true):KX a b=decide (a=b):=by
 unfold KX;rw [ha,hb,Bool.true_and,Bool.true_and];have:=QL (ZM ha) (ZM hb);by_cases h:a=b
 ·rw [decide_eq_true h,decide_eq_true (this.2 h)]
 ·simp [h];exact fun h2=>h (this.1 h2)
theorem CG {S:List (List Vl×Int)} (h:ZP S) {r:List Vl} (hr:Zi r=true):Jk S r=nf S r:=by
 induction S with
 | nil=>rfl
 | cons p S ih =>
  rw [Jk,CF (h.row p (by simp)) hr];by_cases e:p.1=r
  ·subst e;simp only [decide_true,if_true];exact h.Yx.symm
  ·simp only [e,decide_false,Bool.false_eq_true,if_false];rw [ih h.tail,nf,if_neg e,Int.zero_add]
theorem Sm.net {S:List (List Vl×Int)} (h:Sm S) (r:List Vl) : -1000000<=Jk S r/\Jk S r<=1000000:=by
 have hs:=h.sum
 have key:∀ (l:List (List Vl×Int)) (B:Nat),ZN (Zj l)<=B -> -(B:Int)<=Jk l r/\Jk l r<=(B:Int):=by
  intro l
  induction l with
  | nil=>intro B _; simp [Jk]
  | cons p l ih =>
   intro B hB;have hB:(ZB p).a+(ZB p).b+ZN (Zj l)<=B:=hB;have h1:(ZB p).a=p.2.toNat/\(ZB p).b=(-p.2).toNat:=⟨rfl,rfl⟩
   rw [h1.1,h1.2] at hB;rw [Jk];split
   ·omega
   ·exact ih B (by omega)
 have:=key S 1000000 hs;omega
structure UC (R:List Vl->Prop) (ks:List Nat) (fs:List (ByteArray×Nat)) (KS:List (List UInt8)):Prop where
 su:∀ r,R r->Y0 ks fs r
 rn:∀ r,R r->Zdo r
 big:∀ r,R r->∀ v∈r,-1000<=v.n/\v.n<=1000
 nm:∀ r,R r->nmR ks r∈KS
 few:KS.length<=10
 n0:0<ks.length+fs.length
 n6:ks.length+fs.length<=6
structure Jq (R:List Vl->Prop) (k:Nat) (T:Zs):Prop where
 t:Bd k T
 pos:∀ p∈T,0<=p.2
 row:∀ p∈T,R p.1
def sd (b:Bool):Int:=if b then 1 else -1
theorem E0 (b:Bool):sd b=1\/sd b = -1:=by cases b <;> simp [sd]
theorem ZkE (b:Bool):sd b≠0:=by cases b <;> simp [sd]
theorem VM:∀ S:Zs,Zq (Zj S)<=ZN (Zj S)
 | []=>by simp [Zj,Zq,ZN]
 | p::S=>by
  have ih:=VM S;have h1:Zq (Zj (p::S))=(ZB p).net+Zq (Zj S):=rfl;have h2:ZN (Zj (p::S))=(ZB p).a+(ZB p).b+ZN (Zj S):=rfl;rw [h1,h2,Wy];simp only [ZB];omega
section
variable {R:List Vl->Prop} {ks:List Nat} {fs:List (ByteArray×Nat)} {KS:List (List UInt8)} (ok:UC R ks fs KS) {k:Nat} {T:Zs} (h:Jq R k T)
include ok h
theorem Jq.fin (hk:k<=40):FIn ks fs T where
 sm:=h.t.sm (by omega)
 pos:=fun p hp=>by
  have h1:=h.pos p hp;have h2:=h.t.set.net p hp;omega
 rn:=fun p hp=>ok.rn p.1 (h.row p hp)
 su:=fun p hp=>ok.su p.1 (h.row p hp)
 few:=by
  have h1:=VM T;have h2:=h.t.sum;omega
 big:=fun p hp=>ok.big p.1 (h.row p hp)
theorem Jq.step {b:Bool} {x:List Vl} (hx:R x) (hb:b=false->1<=nf T x):Jq R (k+1) (ZO x (sd b) T) where
 t:=h.t.ZO (ok.su x hx).2.2 (E0 b)
 pos:=Zdp h.t.set h.pos (ok.su x hx).2.2 (ZkE b) (by
  cases b
  ·have h1:1<=nf T x:=hb rfl;simp only [sd]; simp; omega
  ·have:=Uy h.pos x
   simp only [sd]; simp; omega)
 row:=fun p hp=>(Rg hp).elim (fun e=>e▸hx) fun ⟨q,h1,h2⟩=>h2▸h.row q h1
theorem Jq.names:(Qz ks T).length<=10:=by
 have h1:=W1 (N:=Qz ks T) (QT KS) (QT _) fun k hk=>by
  obtain ⟨p,hp,e⟩:=Yv.1 hk;exact Xj.2 (e▸ok.nm p.1 (h.row p hp))
 have h2:=h1.length_eq;rw [List.length_append] at h2;have h3:=Rj KS;have h4:=ok.few;omega
theorem Jq.Ziu (hk:k<=40) (key:List UInt8) (hg:ZH ks T key≠[]):Zi (ZV ks fs T key)=true:=by
 have hi:=h.fin ok hk;have hc:Ts ks fs T [] T []:=⟨hi,hi,ok.n0,ok.n6,Bd.nil.sm (by omega),fun p hp=>(by cases hp),fun p hp=>(by cases hp),List.nodup_nil,fun r=>(by simp [nf]),⟨KS,fun p hp=>ok.nm p.1 (h.row p hp),(by have:=ok.few; simp only [List.length_nil]; omega)⟩,Bd.nil.sm (by omega),fun r=>rfl⟩
 exact VL hc hi hg
theorem Jq.out (hk:k<=40):Bd 10 (J5 ks fs T) :=
 EY (h.Ziu ok hk) (h.names ok)
end
section
variable {R:List Vl->Prop} {ks:List Nat} {fs:List (ByteArray×Nat)} {KS:List (List UInt8)} (ok:UC R ks fs KS) {k:Nat} {T:Zs} (h:Jq R k T) {b:Bool} {x:List Vl} (hx:R x) (hb:b=false->1<=nf T x) (hk:k+1<=40)
include ok h hx hb hk
theorem Jq.ZfS:Bd 20 (KT ks fs T (ZO x (sd b) T)):=by
 have h1:=(h.out ok (by omega))
 have h2:=((h.step ok hx hb).out ok hk)
 have l1:(Jp (J5 ks fs T)).length=(J5 ks fs T).length:=by simp [Jp]
 refine ⟨Nt (h1.sm (by omega)).flip.set h2.set,?_,?_⟩
 ·have:=Sx (Jp (J5 ks fs T)) (J5 ks fs (ZO x (sd b) T));have a1:=h1.len;have a2:=h2.len;unfold KT;omega
 ·have:=Tt (Jp (J5 ks fs T)) (J5 ks fs (ZO x (sd b) T));have a1:=h1.sum;have a2:=h2.sum;rw [Su] at this;unfold KT;omega
theorem Jq.chg:Ts ks fs T [(x,sd b)] (ZO x (sd b) T) (KT ks fs T (ZO x (sd b) T)) where
 i:=h.fin ok (by omega)
 i':=(h.step ok hx hb).fin ok hk
 n0:=ok.n0
 n6:=ok.n6
 d:=(H0 (ok.su x hx).2.2 (E0 b)).sm (by omega)
 dn:=fun p hp=>by rw [List.mem_singleton.1 hp]; exact ok.rn x hx
 ds:=fun p hp=>by rw [List.mem_singleton.1 hp]; exact ok.su x hx
 nd:=by simp
 ad:=fun r=>by rw [Kg,Ss]
 KS:=⟨KS,fun p hp=>ok.nm p.1 (h.row p hp),by have:=ok.few; simp; omega⟩
 o:=(h.ZfS ok hx hb hk).sm (by omega)
 on:=fun r=>EZ (by simp) (fun key hkey=>by
  refine ZP.uniq ((h.step ok hx hb).fin ok hk |>.WZ key).set ((h.fin ok (by omega)).WZ key).set fun r => ?_;rw [KZ,KZ];by_cases hr:nmR ks r=key
  ·rw [if_pos hr,if_pos hr,Kg,if_neg]
   ·omega
   ·intro e;refine hkey ?_;simp [<- hr,e]
  ·rw [if_neg hr,if_neg hr]) r
end
theorem Rk (ks:List Nat) (fs:List (ByteArray×Nat)) (T T':Zs) (r:List Vl):nf (J5 ks fs T') r=nf (J5 ks fs T) r+nf (KT ks fs T T') r:=by
 unfold KT;rw [Ns,Rh];omega
theorem Jq.mono {R:List Vl->Prop} {k m:Nat} {T:Zs} (h:Jq R k T) (hk:k<=m):Jq R m T:=⟨h.t.mono hk,h.pos,h.row⟩
theorem Jq.start (R:List Vl->Prop):Jq R 0 []:=⟨Bd.nil,fun p h=>(by cases h),fun p h=>(by cases h)⟩
end
section
open Go Go.RowKit
def ZfT (r:List Vl):Prop:=∃ (n m:Int) (s:List UInt8),r=[⟨1,n,[]⟩,⟨1,m,[]⟩,⟨2,0,s⟩]/\(-3<=n/\n<=3)/\(-3<=m/\m<=3)/\s.length<=2
def ZfU (r:List Vl):Prop:=∃ (n m:Int),r=[⟨1,n,[]⟩,⟨1,m,[]⟩]/\(-3<=n/\n<=3)/\(-3<=m/\m<=3)
def Sz (u:Bool) (r:List Vl):Prop:=if u then ZfU r else ZfT r
theorem ZfT.right {r:List Vl} (h:ZfT r):Zi r=true/\r.map (·.k)=[1,1,2]:=by
 obtain ⟨n,m,s,rfl,h1,h2,h3⟩:=h;refine ⟨?_,rfl⟩;simp [Zi,Vl.right]; omega
theorem ZfU.right {r:List Vl} (h:ZfU r):Zi r=true/\r.map (·.k)=[1,1]:=by
 obtain ⟨n,m,rfl,h1,h2⟩:=h;refine ⟨?_,rfl⟩;simp [Zi,Vl.right]
theorem Sz.right {u:Bool} {r:List Vl} (h:Sz u r):Zi r=true/\r.map (·.k)=if u then [1,1] else [1,1,2]:=by
 cases u
 ·exact ZfT.right h
 ·exact ZfU.right h
theorem Sz.small {u:Bool} {r:List Vl} (h:Sz u r):∀ v∈r,-3<=v.n/\v.n<=3:=by
 cases u
 ·obtain ⟨n,m,s,rfl,h1,h2,h3⟩:=h;simp; omega
 ·obtain ⟨n,m,rfl,h1,h2⟩:=h;simp; omega
theorem Sz.rn {u:Bool} {r:List Vl} (h:Sz u r):Zdo r:=fun v hv=>by
 have h1:=h.small v hv;exact ⟨Q0 h.right.1 v hv,by omega,by omega⟩
theorem Sz.big {u:Bool} {r:List Vl} (h:Sz u r):∀ v∈r,-1000<=v.n/\v.n<=1000:=fun v hv=>by
 have h1:=h.small v hv;omega
end
section
open Go.RowKit
def KU (f:List Vl->Int):Zs->Int
 | []=>0
 | p::S=>p.2*f p.1+KU f S
theorem Yy (f:List Vl->Int) (x:List Vl) (n:Int):∀ S:Zs,KU f (ZO x n S)=KU f S+n*f x
 | []=>by show n*f x+0=0+n*f x; omega
 | p::S=>by
  rw [ZO];split
  ·rw [KU]; simp only; omega
  ·split
   ·rename_i e;split
    ·rename_i h;have h1:p.2*f p.1+n*f p.1=0:=by rw [<- Int.add_mul,h,Int.zero_mul]
     rw [KU,e]; omega
    ·show (p.2+n)*f x+KU f S=(p.2*f p.1+KU f S)+n*f x;rw [<- e,Int.add_mul]; omega
   ·rw [KU,KU,Yy f x n S]; omega
def Bag (T:Zs) (rows:List (List Vl)):Prop:=∀ f,KU f T=(rows.map f).sum
theorem Bag.nil:Bag [] []:=fun f=>rfl
theorem Bag.add {T:Zs} {rows:List (List Vl)} (h:Bag T rows) (x:List Vl):Bag (ZO x 1 T) (rows++[x]):=fun f=>by
 rw [Yy,h f,List.map_append,List.sum_append]; simp
theorem E1 (r:List Vl):∀ T:Zs,nf T r=KU (fun q=>if q=r then 1 else 0) T
 | []=>rfl
 | p::T=>by
  rw [nf,KU,E1 r T];by_cases e:p.1=r <;> simp [e]
theorem H5 (r:List Vl):∀ l:List (List Vl),(l.map fun q=>if q=r then (1:Int) else 0).sum=(l.count r:Int)
 | []=>rfl
 | x::l=>by
  rw [List.map_cons,List.sum_cons,H5 r l,List.count_cons];by_cases e:x=r <;> simp [e] <;> omega
theorem Bag.cnt {T:Zs} {rows:List (List Vl)} (h:Bag T rows) (r:List Vl):nf T r=(rows.count r:Int):=by
 rw [E1,h,H5]
theorem Bag.mem {T:Zs} {rows:List (List Vl)} (h:Bag T rows) (hz:ZP T) {r:List Vl}:r∈rows↔∃ p∈T,p.1=r:=by
 rw [<- List.count_pos_iff];have h1:=h.cnt r;constructor
 ·intro h2;by_cases h3:∃ p∈T,p.1=r
  ·exact h3
  ·have:=Yu fun p hp e=>h3 ⟨p,hp,e⟩;omega
 ·rintro ⟨p,hp,rfl⟩;have h2:=hz.Sr hp;have h3:=hz.net p hp;omega
theorem Bag.empty {T:Zs} {rows:List (List Vl)} (h:Bag T rows) (hz:ZP T):rows=[]↔T=[]:=by
 constructor
 ·intro e;subst e;refine List.eq_nil_iff_forall_not_mem.2 fun p hp => ?_;have:=(h.mem hz).2 ⟨p,hp,rfl⟩;cases this
 ·intro e;subst e;refine List.eq_nil_iff_forall_not_mem.2 fun r hr => ?_;obtain ⟨p,hp,_⟩:=(h.mem hz).1 hr;cases hp
theorem K9 (f:List Vl->Int) (g:List Vl->Bool):∀ T:Zs,KU f (T.filter fun p=>g p.1)=KU (fun r=>if g r then f r else 0) T
 | []=>rfl
 | p::T=>by
  rw [List.filter_cons,KU];have ih:=K9 f g T;by_cases e:g p.1
  ·rw [if_pos e,KU,ih,if_pos e]
  ·rw [if_neg e,ih,if_neg e]; omega
theorem Nu (f:List Vl->Int) (g:List Vl->Bool):∀ l:List (List Vl),((l.filter g).map f).sum=(l.map fun r=>if g r then f r else 0).sum
 | []=>rfl
 | x::l=>by
  rw [List.filter_cons,List.map_cons,List.sum_cons];have ih:=Nu f g l;by_cases e:g x
  ·rw [if_pos e,List.map_cons,List.sum_cons,ih,if_pos e]
  ·rw [if_neg e,ih,if_neg e]; omega
theorem Bag.grp {T:Zs} {rows:List (List Vl)} (h:Bag T rows) (ks:List Nat) (k:List UInt8):Bag (ZH ks T k) (rows.filter fun r=>decide (nmR ks r=k)):=fun f=>by
 unfold ZH;rw [K9 f (fun r=>decide (nmR ks r=k)),h,Nu]
theorem Wa:∀ T:Zs,Zq (Zj T)=KU (fun _=>1) T
 | []=>rfl
 | p::T=>by
  have h1:Zq (Zj (p::T))=(ZB p).net+Zq (Zj T):=rfl;rw [h1,Wy,KU,Wa T]; omega
theorem E2:∀ l:List (List Vl),(l.map fun _=>(1:Int)).sum=(l.length:Int)
 | []=>rfl
 | x::l=>by rw [List.map_cons,List.sum_cons,E2 l,List.length_cons]; omega
theorem Bag.len {T:Zs} {rows:List (List Vl)} (h:Bag T rows):Zq (Zj T)=(rows.length:Int):=by rw [Wa,h,E2]
def nI (n:Int):Vl:=⟨1,n,[]⟩
theorem Nv (n:Int):(nI n).right=true:=by simp [nI,Vl.right]
theorem ZfV (a b:Int):(nI a).less (nI b)=decide (a<b):=by
 unfold Vl.less;rw [Nv,Nv];simp [nI];rfl
end
section
open Go
namespace Ev
noncomputable section
def isK (v:V) (k:Int):Bool:=match v with
 | .ok (.int .i64 n)=>ieq n k
 | _=>false
def Mi (cs:List Zb):Nat->List Int->Bool
 | _,[]=>true
 | off,k::ks=>sel (isK (KC (off+1) cs) k) (Mi cs (off+2) ks) false
def Zdr (off:Nat) (ks:List Int) (c:Cs):Bool:=match c with
 | .mk cs _ _=>Mi cs off ks
 | .bad=>false
def Rl (s:St) (ks:List Int) (v:Zb):Bool:=match v with
 | .slice id off n _=>sel (Nat.beq n ks.length) (Zdr off ks (s.ZT id)) false
 | _=>false
def Zl4 (b:Bool) (s:St):R:=sel b (.ok (.bool true) s) .bad
def uO (K:Nat->Option (List Int)) (args:List Zb) (s:St):R:=match args with
 | [c,.gho _ t]=>(match K t with
  | some ks=>Zl4 (Rl s ks c) s
  | none => .bad)
 | _ => .bad
def Zhw (K:Nat->Option (List Int)):Orc:=⟨uO K⟩
def cellAt (s:St) (id off:Nat):V:=match s.ZT id with
 | .mk cs _ _=>KC off cs
 | .bad => .bad
def pz (s:St) (ks:List Int) (v:V):Bool:=match v with
 | .ok c=>Rl s ks c
 | .bad=>false
def Zhx (b:Bool) (s:St):R:=sel b (.ok (.bool false) s) .bad
def zQ (s:St) (ks:List Int) (n:V) (d:V):Bool:=match n,d with
 | .ok (.int .i64 (.ofNat n)),.ok (.slice id off m _)=>sel (Nat.blt n m) (sel (Nat.ble m 1000000) (pz s ks (cellAt s id (off+n*2+1))) false) false
 | _,_=>false
def uP (s:St) (ks:List Int) (nb:Nat) (g:V):Bool:=match g with
 | .ok (.ptr gb 0)=>zQ s ks (cellAt s nb 0) (cellAt s gb 1)
 | _=>false
def uQ (f1 f2:Nat) (K:Nat->Option (List Int)) (args:List Zb) (s:St):R:=match args with
 | [.gho _ t,.func f [] [.ptr tb 0]]=>(match K t with
  | some ks=>sel (Nat.beq f f1) (Zhx (pz s ks (cellAt s tb 1)) s) .bad
  | none => .bad)
 | [.gho _ t,.func f [] [.ptr fb 0,.ptr nb 0]]=>(match K t with
  | some ks=>sel (Nat.beq f f2) (Zhx (uP s ks nb (cellAt s fb 0)) s) .bad
  | none => .bad)
 | _ => .bad
def ZkG (f1 f2:Nat) (K:Nat->Option (List Int)):Orc:=⟨uQ f1 f2 K⟩
end
section
variable [Sig] {r:Rho} {s:St} {w:World}
theorem Rm (hr:Rel r s w) {id i:Nat} {x:RB} (hx:r id=some x) {cs:List Zb} {e:Nat} {o:Bool} (hc:s.ZT id = .mk cs e o) {v:Zb} (hv:KC i cs = .ok v):∃ u,w.cell? ⟨x.blk,i,none⟩=some u/\VR r v u:=by
 obtain ⟨ob,h1,h2⟩:=hr.block id _ x (ZX hc) hx;obtain ⟨_,vs,rest,t,fr,rfl,h3,_,_,_⟩:=h2;obtain ⟨u,h4,h5⟩:=h3.get (Rn i hv);refine ⟨u,?_,h5⟩;rw [cell_of_row w x.blk i _ t fr h1];have:=(List.getElem?_eq_some_iff.1 h4).1;simp only [List.getElem?_toArray];rw [List.getElem?_append_left this];exact h4
theorem Q5 (hr:Rel r s w) {id i:Nat} {v:Zb} (h:cellAt s id i = .ok v) {x:RB} (hx:r id=some x):∃ u,w.cell? ⟨x.blk,i,none⟩=some u/\VR r v u:=by
 unfold cellAt at h;split at h
 ·rename_i cs e o hc;exact Rm hr hx hc h
 ·cases h
theorem Nw:∀ {cs:List Zb} {ks:List Int} {off:Nat},Mi cs off ks=true->∀ j k,ks[j]? = some k->KC (off+j*2+1) cs = .ok (.int .i64 k)
 | cs,[],_,_,j,k,hk=>by simp at hk
 | cs,k0::ks,off,h,j,k,hk=>by
  rcases Ze (show sel (isK (KC (off+1) cs) k0) (Mi cs (off+2) ks) false=true from h) with ⟨h1,h2⟩ | ⟨_,h2⟩
  ·cases j with
   | zero =>
    simp at hk;subst hk;unfold isK at h1;split at h1
    ·rename_i n hn;rw [QS] at h1;rw [Nat.zero_mul,Nat.add_zero,hn,eq_of_beq h1]
    ·cases h1
   | succ j =>
    have:=Nw h2 j k (by simpa using hk)
    rwa [show off+2+j*2+1=off+(j+1)*2+1 by omega] at this
  ·cases h2
theorem Tu (hr:Rel r s w) {ks:List Int} {v:Zb} {u:Value} (hv:VR r v u) (h:Rl s ks v=true):Tv w u ks:=by
 unfold Rl at h;split at h
 ·rename_i id off n c;rcases Ze h with ⟨h1,h2⟩ | ⟨_,h2⟩
  ·have h1:=Nat.eq_of_beq_eq_true h1;subst h1;unfold Zdr at h2;split at h2
   ·rename_i cs e o hc;cases hv with
    | slice hx hn hcc hu =>
     rename_i x cap;refine ⟨_,_,rfl,fun _=>⟨x.blk,off,rfl,fun j k hk => ?_⟩⟩;obtain ⟨u,h3,h4⟩:=Rm hr hx hc (Nw h2 j k hk);cases h4;exact h3
   ·cases h2
  ·cases h2
 ·cases h
theorem E3 (hr:Rel r s w) {ks:List Int} {v:V} (h:pz s ks v=true):∃ c,v = .ok c/\Rl s ks c=true:=by
 unfold pz at h;split at h
 ·exact ⟨_,rfl,h⟩
 ·cases h
variable {M:Nat->Mn} (hM:Sig.Q8=QK M)
theorem W3 {r:List Vl} (h:Zi r=true):(∀ x∈r,x.right=true)/\r.length<=1000000:=by
 unfold Zi at h;simp only [Bool.and_eq_true,decide_eq_true_eq,Bool.not_eq_true',List.any_eq_false] at h;exact ⟨fun x hx=>by simpa using h.2 x hx,by omega⟩
include hM
theorem UD {K:Nat->Option (List Int)} (hK:∀ t ks,K t=some ks->∃ l,M t = .row l/\l.map (·.k)=ks)
  {fn:Func} {b:Code} (hf:prog.funcs[164]? = some fn) (hname:(fn.name== "runtime.NumGoroutine")=false) (hb:fn.body=some b):Qe prog 164 (Zhw K):=by
 intro args s v s' h r w us hr hv;have h:uO K args s = .ok v s':=h;unfold uO at h;split at h
 ·rename_i c i t _;cases hv with
  | cons hx ht=>cases ht with
   | cons hy ht =>
    cases ht;split at h
    ·rename_i ks hk;obtain ⟨l,m1,rfl⟩:=hK _ _ hk;rcases Ze h with ⟨h1,h⟩ | ⟨_,h⟩
     ·cases h;obtain ⟨z1,a1⟩:=Fw hM hr hy m1;obtain ⟨z2,z3⟩:=W3 z1;refine Xh hf hname hb ((Tw (Tu hr hx h1) a1 z2 z3).mono ?_);rintro _ w' ⟨rfl,h5⟩;exact ⟨_,rfl,r,Ext.same hr h5,.bool _⟩
     ·cases h
    ·cases h
 ·cases h
theorem Zbo {K:Nat->Option (List Int)} (hK:∀ t ks,K t=some ks->∃ S,M t = .set S/\∀ p∈S,p.1.map (·.k)=ks)
  {fn:Func} {b:Code} (hf:prog.funcs[162]? = some fn) (hname:(fn.name== "runtime.NumGoroutine")=false) (hb:fn.body=some b)
  (e1:∀ args W,(callFunc 163 args).run prog W = .ok (.enter 163 args) W)
  (e2:∀ args W,(callFunc 175 args).run prog W = .ok (.enter 175 args) W) :
  Qe prog 162 (ZkG 163 175 K):=by
 intro args s v s' h r w us hr hv;have h:uQ 163 175 K args s = .ok v s':=h;unfold uQ at h;split at h
 ·rename_i i t f tb _;cases hv with
  | cons hx ht=>cases ht with
   | cons hy ht =>
    cases ht;split at h
    ·rename_i ks hk;obtain ⟨S,m1,hks⟩:=hK _ _ hk;rcases Ze h with ⟨iq,h⟩ | ⟨_,h⟩
     ·have iq:=Nat.eq_of_beq_eq_true iq;subst iq;rcases Ze (show sel (pz s ks (cellAt s tb 1)) (.ok (.bool false) s) .bad=R.ok v s' from h) with ⟨h1,h⟩ | ⟨_,h⟩
      ·cases h;obtain ⟨c,h2,h3⟩:=E3 hr h1;obtain ⟨z1,a1⟩:=XJ hM hr hx m1;cases hy with
       | func _ ha hb2 =>
        cases ha;cases hb2 with
        | cons hp ht =>
         cases ht;cases hp with
         | ptr hp =>
          rename_i x;obtain ⟨u,h4,h5⟩:=Q5 hr h2 hp;have iw:=Tu hr h5 h3;refine Xh hf hname hb ((Wj e1 a1 fun rv y W hy hrow _ _ hW => ?_).mono ?_)
          ·obtain ⟨p,hp',rfl⟩:=List.mem_map.1 hy;obtain ⟨z2,z3⟩:=W3 (z1.set.row p hp');refine FB (hW.cell h4 fun h=>h) ?_ (hrow.Zf hW) z2 z3;have:=iw.Zf hW;rw [<- hks p hp'] at this;exact this
          ·rintro _ w' ⟨rfl,h5⟩;exact ⟨_,rfl,r,Ext.same hr h5,.bool _⟩
      ·cases h
     ·cases h
    ·cases h
 ·rename_i i t f fb nb _;cases hv with
  | cons hx ht=>cases ht with
   | cons hy ht =>
    cases ht;split at h
    ·rename_i ks hk;obtain ⟨S,m1,hks⟩:=hK _ _ hk;rcases Ze h with ⟨iq,h⟩ | ⟨_,h⟩
     ·have iq:=Nat.eq_of_beq_eq_true iq;subst iq;rcases Ze (show sel (uP s ks nb (cellAt s fb 0)) (.ok (.bool false) s) .bad=R.ok v s' from h) with ⟨h1,h⟩ | ⟨_,h⟩
      ·cases h;obtain ⟨z1,a1⟩:=XJ hM hr hx m1;unfold uP at h1;split at h1
       ·rename_i gb hgb;unfold zQ at h1;split at h1
        ·rename_i N id off m c hn hd;rcases Ze h1 with ⟨g1,h1⟩ | ⟨_,h1⟩
         ·rcases Ze h1 with ⟨g2,h1⟩ | ⟨_,h1⟩
          ·obtain ⟨c,h2,h3⟩:=E3 hr h1;cases hy with
           | func _ ha hb2 =>
            cases ha;cases hb2 with
            | cons hp ht=>cases ht with
             | cons hp2 ht =>
              cases ht;cases hp with
              | ptr hp =>
               cases hp2 with
               | ptr hp2 =>
                rename_i x x2;obtain ⟨u1,k1,k2⟩:=Q5 hr hgb hp;cases k2 with
                | ptr hg =>
                 obtain ⟨u2,k3,k4⟩:=Q5 hr hd hg;obtain ⟨u3,k5,k6⟩:=Q5 hr hn hp2;cases k6;cases k4 with
                 | slice hdx hdn hdc hdu =>
                  obtain ⟨u4,k7,k8⟩:=Q5 hr h2 hdx;have iw:=Tu hr k8 h3;refine Xh hf hname hb ((Wj e2 a1 fun rv y W hy hrow _ _ hW => ?_).mono ?_)
                  ·obtain ⟨p,hp',rfl⟩:=List.mem_map.1 hy;obtain ⟨z2,z3⟩:=W3 (z1.set.row p hp');refine LW (hW.cell k1 fun h=>h) (hW.cell k3 fun h=>h) (hW.cell k5 fun h=>h) (QI g1) (Ql g2) (hW.cell k7 fun h=>h) ?_ (hrow.Zf hW) z2 z3;have:=iw.Zf hW;rw [<- hks p hp'] at this;exact this
                  ·rintro _ w' ⟨rfl,h5⟩;exact ⟨_,rfl,r,Ext.same hr h5,.bool _⟩
          ·cases h1
         ·cases h1
        ·cases h1
       ·cases h1
      ·cases h
     ·cases h
    ·cases h
 ·cases h
end
end Ev
end
section
open Go
theorem qO:fl 0=0:=by kernel_rfl
theorem zR:fl 1=4607182418800017408:=by kernel_rfl
namespace Ev
noncomputable section
def Zdu (v:V):Option Bool:=match v with
 | .ok (.Z4 .f64 a b)=>sel (Nat.beq a 4607182418800017408) (sel (Nat.beq b 0) (some true) none) (sel (Nat.beq a 0) (sel (Nat.beq b 4607182418800017408) (some false) none) none)
 | _=>none
def UE (v:V):Option Nat:=match v with
 | .ok (.gho _ t)=>some t
 | _=>none
def ZkI (T:Nat->Nat->Bool->Option Nat) (s:St) (a:Nat) (t:Option Nat) (b:Option Bool):R:=match t,b with
 | some t,some b=>Ziq s (T a t b)
 | _,_ => .bad
def Zdv (s:St) (id:Nat) (c:Option Nat):Bool:=match c,s.ZT id with
 | some c,_=>Nat.ble c 1000
 | none,.mk cs e o=>sel o false (sel (Nat.beq e 0) false (Nat.ble cs.length 1000))
 | _,_=>false
def uS (T:Nat->Nat->Option Nat) (T1:Nat->Nat->Bool->Option Nat) (args:List Zb) (s:St):R:=match args with
 | [.gho _ a,.gho _ b]=>Ziq s (T a b)
 | [.gho _ a,.slice id off 1 c]=>sel (Zdv s id c) (ZkI T1 s a (UE (cellAt s id off)) (Zdu (cellAt s id (off+1)))) .bad
 | _ => .bad
def Zhy (T:Nat->Nat->Option Nat) (T1:Nat->Nat->Bool->Option Nat):Orc:=⟨uS T T1⟩
end
theorem Zdx {v:V} {b:Bool} (h:Zdu v=some b):v = .ok (.Z4 .f64 (fl (if b then 1 else 0)) (fl (if b then 0 else 1))):=by
 unfold Zdu at h;split at h
 ·rcases Ze h with ⟨h1,h⟩ | ⟨_,h⟩
  ·rcases Ze h with ⟨h2,h⟩ | ⟨_,h⟩
   ·cases h;rw [Nat.eq_of_beq_eq_true h1,Nat.eq_of_beq_eq_true h2];simp only [if_true,qO,zR]
   ·cases h
  ·rcases Ze h with ⟨h1,h⟩ | ⟨_,h⟩
   ·rcases Ze h with ⟨h2,h⟩ | ⟨_,h⟩
    ·cases h;rw [Nat.eq_of_beq_eq_true h1,Nat.eq_of_beq_eq_true h2];simp only [Bool.false_eq_true,if_false,qO,zR]
    ·cases h
   ·cases h
 ·cases h
theorem Zbp {v:V} {t:Nat} (h:UE v=some t):∃ i,v = .ok (.gho i t):=by
 unfold UE at h;split at h
 ·cases h; exact ⟨_,rfl⟩
 ·cases h
section
theorem Zdy [Sig] {r:Rho} {s:St} {w:World} (hr:Rel r s w) {id off n cap:Nat} {c:Option Nat} {x:RB} (hx:r id=some x) (hc:∀ k,c=some k->cap=k) (hu:c=none->off+cap*x.esz=x.size) (h:Zdv s id c=true):cap<=1000:=by
 unfold Zdv at h;split at h
 ·rw [hc _ rfl];exact Ql h
 ·rename_i cs e o hb;obtain ⟨ob,h1,h2⟩:=hr.block id _ x (ZX hb) hx;obtain ⟨rfl,vs,rest,t,fr,rfl,h3,h4,h5,_⟩:=h2;cases o with
  | true=>cases h
  | false =>
   have h:sel (Nat.beq x.esz 0) false (Nat.ble cs.length 1000)=true:=h;rcases Ze h with ⟨_,h⟩ | ⟨g,h⟩
   ·cases h
   ·have h6:=Ql h;have h7:=h5 rfl;subst h7;have h8:=h3.length;rw [List.append_nil] at h4;have h9:=hu rfl;have h10:x.esz≠0:=fun e=>by rw [e] at g; cases g
    have h11:cap*1<=cap*x.esz:=Nat.mul_le_mul_left _ (by omega);omega
 ·cases h
variable [Sig] {M:Nat->Mn} (hM:Sig.Q8=QK M)
include hM
theorem UF {T:Nat->Nat->Option Nat} {T1:Nat->Nat->Bool->Option Nat} (hT:∀ a b c,T a b=some c->∃ S S' bq,M a = .set S/\M b = .set S'/\M c = .set bq/\Sm bq/\∀ r,nf bq r=nf S r+nf S' r)
  (hT1:∀ a t b c,T1 a t b=some c->∃ S l bq,M a = .set S/\M t = .row l/\M c = .set bq/\Sm bq/\∀ r,nf bq r=nf S r+if l=r then (if b then 1 else -1) else 0)
  {fn:Func} {b:Code} (hf:prog.funcs[112]? = some fn) (hname:(fn.name== "runtime.NumGoroutine")=false) (hb:fn.body=some b):Qe prog 112 (Zhy T T1):=by
 intro args s v s' h r w us hr hv;have h0:uS T T1 args s = .ok v s':=h;unfold uS at h0;split at h0
 ·rename_i _ i a j b';exact O5 hM hT hf hname hb [.gho i a,.gho j b'] s v s' h0 r w us hr hv
 ·rename_i _ i a id off cc;rcases Ze h0 with ⟨g1,h0⟩ | ⟨_,h0⟩
  ·cases hv with
   | cons hx ht=>cases ht with
    | cons hy ht =>
     cases ht;unfold ZkI at h0;split at h0
     ·rename_i t sd hts hsd;cases hc:T1 a t sd with
      | none=>rw [hc] at h0; cases h0
      | some c =>
       rw [hc] at h0;cases h0;obtain ⟨S,l,bq,m1,m2,m3,hs,hnf⟩:=hT1 a t sd c hc;obtain ⟨z1,a1⟩:=XJ hM hr hx m1;obtain ⟨ti,hti⟩:=Zbp hts;have hsd:=Zdx hsd;cases hy with
       | slice hdx hdn hdc hdu =>
        rename_i x cap;have hcc:=Zdy (n:=1) hr hdx hdc hdu g1;obtain ⟨u1,k1,k2⟩:=Q5 hr hti hdx;obtain ⟨u2,k3,k4⟩:=Q5 hr hsd hdx;cases k4;obtain ⟨z2,a2⟩:=Fw hM hr k2 m2;obtain ⟨_,z4⟩:=W3 z2
        have a3:Zp (fun b=>JB r b\/b=x.blk) w (.slice (some ⟨x.blk,off,none⟩) 1 cap) [⟨l,if sd then 1 else 0,if sd then 0 else 1⟩]:=by
         refine ⟨_,_,rfl,hdn,by omega,fun _=>⟨x.blk,off,rfl,.inr rfl,World.block_lt_of_cell? w _ k1,fun j y hy => ?_⟩⟩;cases j with
         | succ j=>simp at hy
         | zero =>
          simp at hy;subst hy;exact ⟨⟨u1,by simpa using k1,a2.mono fun b hb _ => .inl hb⟩,by simpa [tc] using k3,by cases sd <;> simp,by cases sd <;> simp,z4⟩
        have hw1:ZN [(⟨l,if sd then 1 else 0,if sd then 0 else 1⟩:Itm)]=1:=by cases sd <;> rfl
        refine Xh hf hname hb ((Tq a1 a3 (by rw [Zu]; have:=z1.few; omega) (by simp) z1.rows (fun y hy=>by rw [List.mem_singleton.1 hy]; exact z2) (by rw [hw1]; have:=z1.sum; omega)).mono ?_);rintro _ w' ⟨u,S3,rfl,hz,h3,_,h4,h5⟩
        have:S3=bq:=ZP.uniq hz hs.set fun r=>by
         rw [h3,Z2,Wx,hnf];cases sd <;> simp [Qf,Itm.net]
        subst this;obtain ⟨q,e1,e2⟩:=Me hM hr h5 (fun k hk _ => .inr hk) m3 hs h4;exact ⟨_,rfl,q,e1,.tuple (.cons e2 (.cons (.int _ _) .nil))⟩
     ·cases h0
  ·cases h0
 ·cases h0
end
end Ev
end
section
open Go
theorem ZkJ {n:Int} (h0:n≠0) (h1 : -1000000<=n) (h2:n<=1000000) (P:Program) (t:TypeId) (W:World) :
  (binOp .eql t (tn n) (.complex .f64 0 0)).run P W = .ok (.bool false) W/\(binOp .neq t (tn n) (.complex .f64 0 0)).run P W = .ok (.bool true) W:=by
 have e:(Value.complex .f64 0 0) = .complex .f64 (fl 0) (fl 0):=by rw [qO]
 have hb:(decide (n.toNat=0) && decide ((-n).toNat=0))=false:=by
  rw [Bool.and_eq_false_iff,decide_eq_false_iff_not,decide_eq_false_iff_not];omega
 rw [e];unfold tn tc;rw [DT (by omega) (by omega) (by decide) (by decide),Kr (by omega) (by omega) (by decide) (by decide),hb];exact ⟨rfl,rfl⟩
theorem ZfX {M:Nat->Mn} (h:M 0 = .nz):∀ F w v,QK M 0 F w v->(∃ a b,v = .complex .f64 a b)/\∀ (P:Program) (t:TypeId) (W:World),(binOp .eql t v (.complex .f64 0 0)).run P W = .ok (.bool false) W/\(binOp .neq t v (.complex .f64 0 0)).run P W = .ok (.bool true) W:=by
 intro F w v hm;unfold QK at hm;rw [h] at hm;obtain ⟨n,h0,h1,h2,rfl⟩:=hm;exact ⟨⟨_,_,rfl⟩,fun P t W=>ZkJ h0 h1 h2 P t W⟩
namespace Ev
noncomputable section
def Zl5 (s:St) (o:Option Bool):R:=match o with
 | some true => .ok (.gho s.next 0) s.VJ
 | some false => .ok (.Z4 .f64 0 0) s
 | none => .bad
def ofR (T:Nat->Nat->Option Bool) (args:List Zb) (s:St):R:=match args with
 | [.gho _ a,.gho _ t]=>Zl5 s (T a t)
 | _ => .bad
def oOf (T:Nat->Nat->Option Bool):Orc:=⟨ofR T⟩
end
section
variable [Sig] {M:Nat->Mn} (hM:Sig.Q8=QK M)
include hM
theorem Zdz {T:Nat->Nat->Option Bool} (h0:M 0 = .nz) (hT:∀ a t b,T a t=some b->∃ S l,M a = .set S/\M t = .row l/\(b=true↔Jk S l≠0) /\ -1000000<=Jk S l/\Jk S l<=1000000)
  {fn:Func} {b:Code} (hf:prog.funcs[166]? = some fn) (hname:(fn.name== "runtime.NumGoroutine")=false) (hb:fn.body=some b):Qe prog 166 (oOf T):=by
 intro args s v s' h r w us hr hv;have h:ofR T args s = .ok v s':=h;unfold ofR at h;split at h
 ·rename_i i a j t _;cases hv with
  | cons hx ht=>cases ht with
   | cons hy ht =>
    cases ht;cases hc:T a t with
    | none=>rw [hc] at h; cases h
    | some bb =>
     rw [hc] at h;obtain ⟨S,l,m1,m2,hiff,g1,g2⟩:=hT a t bb hc;obtain ⟨z1,a1⟩:=XJ hM hr hx m1;obtain ⟨z2,a2⟩:=Fw hM hr hy m2;refine Xh hf hname hb ((Za5 a1 z1.zr a2).mono ?_);rintro _ w' ⟨rfl,h5⟩;cases bb with
     | true =>
      cases h
      have hm:Sig.Q8 0 (fun _=>False) w' (tn (Jk S l)):=by
       rw [hM];unfold QK;rw [h0];exact ⟨_,hiff.1 rfl,g1,g2,rfl⟩
      obtain ⟨q,e1,e2⟩:=EV hr h5 (u:=tn (Jk S l)) rfl (fun b h=>by cases h) (fun k hk _=>hk.elim) hm;exact ⟨_,rfl,q,e1,e2⟩
     | false =>
      cases h
      have hz:Jk S l=0:=by
       by_cases hz:Jk S l=0
       ·exact hz
       ·have:=hiff.2 hz; cases this
      rw [hz];refine ⟨_,rfl,r,Ext.same hr h5,?_⟩;show VR r (.Z4 .f64 0 0) (.complex .f64 (fl 0) (fl 0));rw [qO];exact .Z4 _ _ _
 ·cases h
end
end Ev
end
section
open Go
namespace Ev
noncomputable section
def zS (t:TypeId) (s:St) (m:Option Zd):R:=match m with
 | some (.opq g a) => .ok (.iface t (.map s.next)) (s.new (.opq g a))
 | _ => .bad
def FD (args:List Zb) (s:St):R:=match args with
 | [.iface t (.map m)]=>zS t s (s.get m)
 | _ => .bad
def E4:Orc:=⟨FD⟩
def FE (cs:List Zb):Nat->List Nat->Bool
 | _,[]=>true
 | off,k::ks=>sel (isK (KC off cs) (.ofNat k)) (FE cs (off+1) ks) false
def Zhz (off:Nat) (ks:List Nat) (c:Cs):Bool:=match c with
 | .mk cs _ _=>FE cs off ks
 | .bad=>false
def UG (s:St) (ks:List Nat) (v:Zb):Bool:=match v with
 | .Za=>(match ks with
  | []=>true
  | _=>false)
 | .slice id off n _=>sel (Nat.beq n ks.length) (Zhz off ks (s.ZT id)) false
 | _=>false
def isS (v:V) (l:List UInt8):Bool:=match v with
 | .ok (.str k)=>QG k l
 | _=>false
def FF (cs:List Zb):Nat->List (List UInt8×Nat)->Bool
 | _,[]=>true
 | off,f::fs=>sel (isS (KC off cs) f.1) (sel (isK (KC (off+1) cs) (.ofNat f.2)) (FF cs (off+2) fs) false) false
def ZhA (off:Nat) (fs:List (List UInt8×Nat)) (c:Cs):Bool:=match c with
 | .mk cs _ _=>FF cs off fs
 | .bad=>false
def UH (s:St) (fs:List (List UInt8×Nat)) (v:Zb):Bool:=match v with
 | .slice id off n _=>sel (Nat.beq n fs.length) (ZhA off fs (s.ZT id)) false
 | _=>false
def mo (s:St) (m:Nat) (o:Option (Nat×Nat)):R:=match o with
 | some p => .ok (.tuple [.gho (s.next+1) p.2,.int .i64 (.ofNat 0)]) (s.VJ.VJ.put m (.opq s.next p.1))
 | none => .bad
def zT (KF:Nat->Option (List Nat×List (List UInt8×Nat))) (T:Nat->Nat->Option (Nat×Nat)) (s:St) (d m:Nat) (kv fv:Zb) (b:Option Zd):R:=match b with
 | some (.opq g a)=>(match KF a with
  | some kf=>sel (UG s kf.1 kv) (sel (UH s kf.2 fv) (mo s m (T a d)) .bad) .bad
  | none => .bad)
 | _ => .bad
def zU (KF:Nat->Option (List Nat×List (List UInt8×Nat))) (T:Nat->Nat->Option (Nat×Nat)) (s:St) (d:Nat) (k f m:V):R:=match k,f,m with
 | .ok kv,.ok fv,.ok (.map m)=>zT KF T s d m kv fv (s.get m)
 | _,_,_ => .bad
def uT (KF:Nat->Option (List Nat×List (List UInt8×Nat))) (T:Nat->Nat->Option (Nat×Nat)) (args:List Zb) (s:St):R:=match args with
 | [.ptr p 0,.gho _ d]=>zU KF T s d (cellAt s p 0) (cellAt s p 1) (cellAt s p 2)
 | _ => .bad
def ZkM (KF:Nat->Option (List Nat×List (List UInt8×Nat))) (T:Nat->Nat->Option (Nat×Nat)):Orc:=⟨uT KF T⟩
end
section
variable [Sig] {P:Program} {r:Rho} {s:St} {w:World}
theorem FG {f:FuncId} {fn:Func} (hf:P.funcs[f]? = some fn) (hname:(fn.name== "runtime.NumGoroutine")=false) (hb:fn.body.isNone=true) (hn:Extern.findNext fn=none) (he:Extern.find fn=some Extern.MapsClone.clone)
  (uU:∀ t F w o,Sig.Xi t F w o->∃ es c,o = .map es c):Qe P f E4:=by
 intro args s v s' h r w us hr hv;have h:FD args s=R.ok v s':=h;unfold FD at h;split at h
 ·rename_i t m;cases hv with
  | cons hv ht =>
   cases ht;cases hv with
   | iface _ hv =>
    cases hv with
    | map hm =>
     rename_i x;unfold zS at h;split at h
     ·rename_i g a aG;cases h;obtain ⟨o,h1,y,gg,h2,h3,h4⟩:=hr.block _ _ _ aG hm;obtain ⟨es,c,rfl⟩:=uU _ _ _ _ h4;refine .inl ⟨_,w.alloc (.map es c),?_,r.at s.next (RB.of w.heap.size (0) (0)),Ext.new hr rfl (o := .map es c) (by show (w.alloc (.map es c)).heap[w.heap.size]? = _; unfold World.alloc; exact Array.getElem?_push_size) ⟨y,gg,(r.JU _ (hr.Qb (Nat.le_refl _))) _ _ h2,h3,h4⟩ (fun k hk => ?_) (Nat.le_of_lt (by simp)) rfl rfl rfl,.iface _ (.map (x:=RB.of w.heap.size (0) (0)) (Rho.Zn _ _ _))⟩
      ·rw [run_callFunc_extern hf hname hb hn he];exact congrArg (fun x=>x.andThen fun v w'=>Result.ok (Next.value v) w') (H6 _ h1)
      ·exact Go.RowKit.Below.heap_alloc w _ k hk
     ·cases h
 ·cases h
theorem ZfY (hr:Rel r s w) {w':World} {o:Obj} {F:Nat->Prop} {t:Nat} (hc:Chg (fun _=>False) w w') (hF:∀ k,F k->k<w'.heap.size->JB r k\/w.heap.size<=k) (hm:Sig.Xi t F w' o) :
  ∃ q,Ext r s w q s.VJ w'/\∃ y g,q s.next=some y/\y.gho=some g/\Sig.Xi t g.Sl g.made o/\g.Sl=F/\g.made=w':=by
 let g:Gh:=⟨.map none,rfl,(fun b h=>by cases h),F,w'⟩
 let x:RB:=⟨0,0,0,some g⟩
 refine ⟨r.at s.next x,Ext.gho hr (fun g' hg => ?_) (fun g' hg k hk hl => ?_) (fun k hk=>hc.block k hk fun h=>h) hc.size hc.os hc.tape hc.output,x,g,Rho.Zn _ _ _,rfl,hm,rfl,rfl⟩
 ·cases hg;refine ⟨Nat.le_refl _,fun k hk hl=>⟨rfl,fun hh => ?_⟩⟩;rcases hF k hk hl with ⟨i,y,g',e1,e2,e3,e4⟩ | h3
  ·exact ((hr.safe i y g' e1 e2).2 k e3 e4).2 hh
  ·have:=hr.lt hh; omega
 ·cases hg;exact hF k hk hl
theorem zV {v:V} {k:Int} (h:isK v k=true):v = .ok (.int .i64 k):=by
 unfold isK at h;split at h
 ·rw [QS] at h;rw [eq_of_beq h]
 ·cases h
theorem Ziy {v:V} {l:List UInt8} (h:isS v l=true):v = .ok (.str l):=by
 unfold isS at h;split at h
 ·rw [Qp] at h;rw [eq_of_beq h]
 ·cases h
theorem H7:∀ {cs:List Zb} {ks:List Nat} {off:Nat},FE cs off ks=true->∀ (j n:Nat),ks[j]? = some n->KC (off+j) cs = .ok (.int .i64 (n:Int))
 | cs,[],_,_,j,n,hk=>by simp at hk
 | cs,k0::ks,off,h,j,n,hk=>by
  rcases Ze (show sel (isK (KC off cs) (.ofNat k0)) (FE cs (off+1) ks) false=true from h) with ⟨h1,h2⟩ | ⟨_,h2⟩
  ·cases j with
   | zero=>simp at hk; subst hk; exact zV h1
   | succ j =>
    have:=H7 h2 j n (by simpa using hk);rw [show off+(j+1)=off+1+j by omega];exact this
  ·cases h2
theorem H8:∀ {cs:List Zb} {fs:List (List UInt8×Nat)} {off:Nat},FF cs off fs=true->∀ (j:Nat) f,fs[j]? = some f->KC (off+j*2) cs = .ok (.str f.1)/\KC (off+j*2+1) cs = .ok (.int .i64 (f.2:Int))
 | cs,[],_,_,j,f,hk=>by simp at hk
 | cs,f0::fs,off,h,j,f,hk=>by
  rcases Ze (show sel (isS (KC off cs) f0.1) (sel (isK (KC (off+1) cs) (.ofNat f0.2)) (FF cs (off+2) fs) false) false=true from h) with ⟨h1,h2⟩ | ⟨_,h2⟩
  ·rcases Ze h2 with ⟨h3,h4⟩ | ⟨_,h4⟩
   ·cases j with
    | zero=>simp at hk; subst hk; exact ⟨Ziy h1,zV h3⟩
    | succ j =>
     have:=H8 h4 j f (by simpa using hk);rw [show off+(j+1)*2=off+2+j*2 by omega];exact this
   ·cases h4
  ·cases h2
def VO (fs:List (List UInt8×Nat)):List (ByteArray×Nat):=fs.map fun f=>(⟨⟨f.1⟩⟩,f.2)
theorem ZdC (hr:Rel r s w) {p m:Nat} {x y:RB} {kv fv:Zb} (hx:r p=some x) (hy:r m=some y) {ks:List Nat} {fs:List (List UInt8×Nat)} (h0:cellAt s p 0 = .ok kv) (h1:cellAt s p 1 = .ok fv) (h2:cellAt s p 2 = .ok (.map m)) (hk:UG s ks kv=true) (hf:UH s fs fv=true)
  (hkl:ks.length<=6) (hfl:fs.length<=6):∃ fb fo fc kc KA,Rc w x.blk y.blk fb fo fc kc KA ks (VO fs):=by
 obtain ⟨u0,c0,v0⟩:=Q5 hr h0 hx;obtain ⟨u1,c1,v1⟩:=Q5 hr h1 hx;obtain ⟨u2,c2,v2⟩:=Q5 hr h2 hx
 have hmap:u2 = .map (some y.blk):=by
  cases v2 with
  | map h=>rw [hy] at h; injection h with h; rw [h]
 subst hmap
 have hfun:∃ fb fo fc,u1 = .slice (some ⟨fb,fo,none⟩) fs.length fc/\∀ (j:Nat) f,(VO fs)[j]? = some f->w.cell? ⟨fb,fo+j*2,none⟩=some (.string f.1)/\w.cell? ⟨fb,fo+j*2+1,none⟩=some (.int .i64 (f.2:Int)):=by
  unfold UH at hf;split at hf
  ·rename_i id off n cap;obtain ⟨h3,h4⟩:=ZG hf;have h3:=Nat.eq_of_beq_eq_true h3;subst h3;cases v1 with
   | slice hz hn hc hu =>
    rename_i z kX;refine ⟨z.blk,off,kX,rfl,fun j f hj => ?_⟩;unfold ZhA at h4;split at h4
    ·rename_i cs e o hcs;unfold VO at hj;rw [List.getElem?_map] at hj;obtain ⟨f',hf',rfl⟩:=Option.map_eq_some_iff.1 hj;obtain ⟨e1,e2⟩:=H8 h4 j f' hf';obtain ⟨a1,b1,d1⟩:=Rm hr hz hcs e1;obtain ⟨a2,b2,d2⟩:=Rm hr hz hcs e2;cases d1;cases d2;exact ⟨b1,b2⟩
    ·cases h4
  ·cases hf
 obtain ⟨fb,fo,fc,rfl,iq⟩:=hfun;have jc:(VO fs).length=fs.length:=by simp [VO]
 have hkey:∃ KA kc,u0 = .slice KA ks.length kc/\∀ (j n:Nat),ks[j]? = some n->∃ kb ko,KA=some ⟨kb,ko,none⟩/\w.cell? ⟨kb,ko+j,none⟩=some (.int .i64 (n:Int)):=by
  unfold UG at hk;split at hk
  ·split at hk
   ·cases v0;exact ⟨none,0,rfl,fun j n hj=>by simp at hj⟩
   ·cases hk
  ·rename_i id off n cap;obtain ⟨h3,h4⟩:=ZG hk;have h3:=Nat.eq_of_beq_eq_true h3;subst h3;cases v0 with
   | slice hz hn hc hu =>
    rename_i z kX;refine ⟨some ⟨z.blk,off,none⟩,kX,rfl,fun j n hj=>⟨z.blk,off,rfl,?_⟩⟩;unfold Zhz at h4;split at h4
    ·rename_i cs e o hcs;obtain ⟨a1,b1,d1⟩:=Rm hr hz hcs (H7 h4 j n hj);cases d1;exact b1
    ·cases h4
  ·cases hk
 obtain ⟨KA,kc,rfl,hkk⟩:=hkey;exact ⟨fb,fo,fc,kc,KA,c0,by rw [jc]; exact c1,c2,hkk,iq,hkl,by rw [jc]; exact hfl⟩
end
section
variable [Sig] {M:Nat->Mn} (hM:Sig.Q8=QK M) (hO:Sig.Xi=Kz M)
include hM hO
theorem Zbq {KF:Nat->Option (List Nat×List (List UInt8×Nat))} {T:Nat->Nat->Option (Nat×Nat)}
  (hT:∀ a d kf p,KF a=some kf->T a d=some p->∃ I D I' O,M a = .obj (X1 kf.1 (VO kf.2) I)/\M d = .set D/\M p.1 = .obj (X1 kf.1 (VO kf.2) I')/\M p.2 = .set O/\Ts kf.1 (VO kf.2) I D I' O)
  {fn:Func} {b:Code} (hf:prog.funcs[181]? = some fn) (hname:(fn.name== "runtime.NumGoroutine")=false) (hb:fn.body=some b):Qe prog 181 (ZkM KF T):=by
 intro args s v s' h r w us hr hv;have h0:uT KF T args s = .ok v s':=h;unfold uT at h0;split at h0
 ·rename_i _ p di d;unfold zU at h0;split at h0
  ·rename_i kv fv m hk qP hm;unfold zT at h0;split at h0
   ·rename_i g a hblk;split at h0
    ·rename_i kf hkf;rcases Ze h0 with ⟨hk1,h0⟩ | ⟨_,h0⟩
     ·rcases Ze h0 with ⟨hf1,h0⟩ | ⟨_,h0⟩
      ·cases ht:T a d with
       | none=>rw [ht] at h0; cases h0
       | some pr =>
        rw [ht] at h0;cases h0;obtain ⟨I,D,I',O,m1,m2,m3,m4,hch⟩:=hT a d kf pr hkf ht;cases hv with
        | cons hx ht=>cases ht with
         | cons hy ht =>
          cases ht;cases hx with
          | ptr hx =>
           rename_i x;obtain ⟨z1,a1⟩:=XJ hM hr hy m2;obtain ⟨um,cm,vm⟩:=Q5 hr hm hx;cases vm with
           | map hym =>
            rename_i y;have hkl:kf.1.length<=6:=by have:=hch.n6; omega
            have hfl:kf.2.length<=6:=by have:=hch.n6; simp only [VO,List.length_map] at this; omega
            obtain ⟨fb,fo,fc,kc,KA,hF⟩:=ZdC hr hx hym hk qP hm hk1 hf1 hkl hfl;obtain ⟨ob,bF,z,gg,hz,hzg,qQ⟩:=hr.block m _ y hblk hym;have jJ:=hr.safe g z gg hz hzg;rw [hO] at qQ;unfold Kz at qQ;rw [m1] at qQ;obtain ⟨es,clock,f,rfl,hme,iq⟩:=qQ;have jd:Wz kf.1 (VO kf.2) I (JB r) w f:=((iq.mono (G:=fun b=>gg.Sl b/\b<gg.made.heap.size) fun b hb hl=>⟨hb,hl⟩).move jJ.1 fun k hk hl=>(jJ.2 k hk.1 hl).1).mono fun b hb _=>⟨g,z,gg,hz,hzg,hb.1,hb.2⟩
            have hfm:∀ b,JB r b->b≠y.blk:=fun b ⟨i,zz,g',e1,e2,e3,e4⟩ e=>((hr.safe i zz g' e1 e2).2 b e3 e4).2 ⟨m,_,y,hblk,hym,e.symm⟩;obtain ⟨KS,sO,hKn⟩:=hch.KS;refine Xh hf hname hb ((Fz hF ⟨es,clock,bF,hme⟩ hfm a1 z1.zr hch.ds hch.nd (hch.Zl3 jd) (hch.few jd) (KS:=KS) (fun k hk => ?_) hKn).mono ?_)
            ·obtain ⟨v,hv⟩:=Option.ne_none_iff_exists'.1 hk;obtain ⟨q,hq,e,_⟩:=jd.to k v hv;rw [e];exact sO q hq
            ·rintro _ w' ⟨u,S,dn,iO,rfl,hzS,uV,hnd,hdn,hset,hc,hmf,uW,pE⟩
             have hSO:S=O:=ZP.uniq hzS hch.o.set fun r=>by
              rw [uV,hch.on];refine Sw (List.Perm.flatMap_right _ ?_) r;refine (List.perm_ext_iff_of_nodup hnd hch.nd).2 fun k => ?_;rw [hdn,List.mem_map];exact ⟨fun ⟨p,hp,e⟩=>⟨p,hp,e.symm⟩,fun ⟨p,hp,e⟩=>⟨p,hp,e.symm⟩⟩
             subst hSO;obtain ⟨es',clock',uX,uY⟩:=hmf;have tV:y.blk<w.heap.size:=lt_of_block bF
             have jc:=hch.left (F':=fun b=>(w.heap.size<=b\/JB r b/\b<w.heap.size)/\b≠y.blk) jd hdn (fun v key S told hg=>(hg.mono (H:=fun b=>(w.heap.size<=b\/JB r b/\b<w.heap.size)/\b≠y.blk) fun b hb hl=>⟨.inr ⟨hb,hl⟩,hfm b hb⟩).chg hc fun b hb _ e=>hb.2 e) uW fun p hp=>⟨(pE p hp).1,fun hn=>by
              obtain ⟨v,e1,e2⟩:=(pE p hp).2 hn
              exact ⟨v,e1,e2.mono fun b hb hl=>⟨hb,by
               rcases hb with hb | hb
               ·omega
               ·exact hfm b hb.1⟩⟩⟩
             obtain ⟨w1,hw1⟩:∃ x,x=upd w' y.blk (.map es clock):=⟨_,rfl⟩
             have hsz:w1.heap.size=w'.heap.size:=by rw [hw1]; simp [upd]
             have hne:∀ k,k≠y.blk->w1.heap[k]? = w'.heap[k]? := fun k hk=>by
              rw [hw1];simp only [upd];rw [Array.getElem?_setIfInBounds_ne (Ne.symm hk)]
             have hc1:Chg (fun _=>False) w w1:=by
              refine ⟨by rw [hw1]; exact hc.os,by rw [hw1]; exact hc.tape,by rw [hw1]; exact hc.output,by rw [hsz]; exact hc.size,fun k hk _ => ?_⟩;by_cases qR:k=y.blk
              ·subst qR;rw [bF,hw1];simp only [upd];rw [Array.getElem?_setIfInBounds_self_of_lt (by have:=hc.size; omega)]
              ·rw [hne k qR];exact hc.block k hk qR
             have hfo:X1 kf.1 (VO kf.2) I' (fun b=>(w.heap.size<=b\/JB r b/\b<w.heap.size)/\b≠y.blk) w1 (.map es' clock'):=⟨es',clock',iO,rfl,uY,jc.move (by rw [hsz]; exact Nat.le_refl _) fun k hk _=>hne k hk.2⟩
             obtain ⟨q1,x1,y1,g1,k1,k2,k3,k4,k5⟩:=ZfY hr (F:=fun b=>(w.heap.size<=b\/JB r b/\b<w.heap.size)/\b≠y.blk) (t:=pr.1) hc1 (fun k hk _=>by
              rcases hk.1 with h | h
              ·exact .inr h
              ·exact .inl h.1) (by rw [hO]; unfold Kz; rw [m3]; exact hfo)
             obtain ⟨q2,x2,v2⟩:=Me (w':=w1) hM x1.rel (Chg.refl _ w1) (F:=fun b=>w.heap.size<=b/\b<w1.heap.size/\b≠y.blk) (t:=pr.2) (fun k hk _ => .inl ⟨s.next,y1,g1,k1,k2,by rw [k4]; exact ⟨.inl hk.1,hk.2.2⟩,by rw [k5]; exact hk.2.1⟩) m4 hch.o ((hset.mono fun b hb hl=>⟨hb,by rw [hsz]; exact hl,by have hb:w.heap.size<=b:=hb; omega⟩).move (by rw [hsz]; exact Nat.le_refl _) fun k hk _=>hne k hk.2.2);have l7:=x1.trans x2;have x3:=Ext.put (u:=w') (c := .opq s.next pr.1) (o := .map es' clock') l7.rel (i:=m) (b := .opq g a) (by exact hblk) (l7.le _ _ hym) uX ⟨y1,g1,x2.le _ _ k1,k2,k3⟩ (fun k hk=>(hne k hk).symm) hsz.symm (by rw [hw1]; rfl) (by rw [hw1]; rfl) (by rw [hw1]; rfl);exact ⟨_,rfl,q2,l7.trans x3,.tuple (.cons v2 (.cons (.int _ _) .nil))⟩
      ·cases h0
     ·cases h0
    ·cases h0
   ·cases h0
  ·cases h0
 ·cases h0
end
end Ev
end
namespace Ev
open Go
noncomputable section
structure Vw where
 z:Bool
 d:Int
 k:Int
 g:Tr Nat
 e:Tr Nat
 tg:Nat->Nat->Bool
 te:Nat->Bool
 tm:Nat->Bool
def isN (o:Option Nat) (i:Nat):Bool:=match o with
 | some k=>Nat.beq k i
 | none=>false
def Ziz (o:Option Nat):Bool:=match o with
 | some _=>false
 | none=>true
def Zbr (z:Bool) (d k:Int) (c a b c' a' b':Int):Bool :=
 sel z (sel (ieq a (.ofNat 0)) (sel (ieq b (.ofNat 0)) (ieq c (c'+b'*k)) false) false)
  (sel (ieq a a') (sel (ieq b (.ofNat 0)) (ieq (c'+a*d+b'*k) c) false) false)
mutual
def Y4 (X:Vw):Zb->Zb->Bool
 | .int j a,.int k b=>sel (keq j k) (Zbr X.z X.d X.k a (.ofNat 0) (.ofNat 0) b (.ofNat 0) (.ofNat 0)) false
 | .int j a,.sint k c' a' b'=>sel (keq j k) (Zbr X.z X.d X.k a (.ofNat 0) (.ofNat 0) c' a' b') false
 | .sint j c a b,.int k n=>sel (keq j k) (Zbr X.z X.d X.k c a b n (.ofNat 0) (.ofNat 0)) false
 | .sint j c a b,.sint k c' a' b'=>sel (keq j k) (Zbr X.z X.d X.k c a b c' a' b') false
 | .bool a,.bool b=>Nx a b
 | .flt j a,.flt k b=>sel (Fp j k) (Nat.beq a b) false
 | .Z4 j a c,.Z4 k b e=>sel (Fp j k) (sel (Nat.beq a b) (Nat.beq c e) false) false
 | .str a,.str b=>QG a b
 | .Zo,.Zo=>true
 | .ptr i a,.ptr j b=>sel (isN (X.g.get j) i) (Nat.beq a b) false
 | .Za,.Za=>true
 | .Z8,.Z8=>true
 | .slice i a n none,.slice j b m none=>sel (isN (X.g.get j) i) (sel (Nat.beq a b) (Nat.beq n m) false) false
 | .slice i a n (some c),.slice j b m (some e)=>sel (isN (X.g.get j) i) (sel (Nat.beq a b) (sel (Nat.beq n m) (Nat.beq c e) false) false) false
 | .Zk,.Zk=>true
 | .map i,.map j=>isN (X.g.get j) i
 | .func f a b,.func g a' b'=>sel (Nat.beq f g) (sel (JQ X a a') (JQ X b b') false) false
 | .ZQ,.ZQ=>true
 | .nilIface,.nilIface=>true
 | .iface t a,.iface u b=>sel (Nat.beq t u) (Y4 X a b) false
 | .agg a,.agg b=>JQ X a b
 | .tuple a,.tuple b=>JQ X a b
 | .gho i a,.gho j b=>sel (isN (X.g.get j) i) (X.tg a b) false
 | .Za,.gho j b=>sel (Ziz (X.g.get j)) (sel (isN (X.e.get j) 0) (X.te b) false) false
 | _,_=>false
def JQ (X:Vw):List Zb->List Zb->Bool
 | [],[]=>true
 | x::xs,y::ys=>sel (Y4 X x y) (JQ X xs ys) false
 | _,_=>false
end
def Tx (X:Vw):List Entry->List Entry->Bool
 | [],[]=>true
 | (a,b,n)::l,(a',b',m)::k=>sel (Y4 X a a') (sel (Y4 X b b') (sel (Nat.beq n m) (Tx X l k) false) false) false
 | _,_=>false
def E5 (X:Vw):Zd->Zd->Bool
 | .cells cs e o,.cells ds f p=>sel (Nat.beq e f) (sel p (JQ X cs ds) (sel o false (JQ X cs ds))) false
 | .map es c,.map fs k=>sel (Nat.beq c k) (Tx X es fs) false
 | .opq i a,.opq j b=>sel (isN (X.g.get j) i) (X.tg a b) false
 | .map [] c,.opq j b=>sel (Ziz (X.g.get j)) (sel (isN (X.e.get j) 0) (X.tm b) false) false
 | _,_=>false
def ZdD (X:Vw) (o:Option Zd) (b:Zd):Bool:=match o with
 | some c=>E5 X c b
 | none=>false
def uZ (X:Vw) (f:Tr Nat) (t:Tr Zd) (j:Nat) (b:Zd):Bool:=match X.g.get j with
 | some i=>sel (isN (f.get i) j) (ZdD X (t.get i) b) false
 | none=>false
def CH (X:Vw) (f:Tr Nat) (t:Tr Zd):List (Nat×Zd)->Bool
 | []=>true
 | (j,b)::l=>sel (uZ X f t j b) (CH X f t l) false
def Ty (n:Nat):List (Nat×Nat)->Bool
 | []=>true
 | (j,_)::l=>sel (Nat.blt j n) (Ty n l) false
end
variable {P:Program}
theorem Jf {u v:Bool} (h:sel u v false=true):u=true/\v=true:=by
 cases u
 ·cases h
 ·exact ⟨rfl,h⟩
theorem W4 {o:Option Nat} {i:Nat} (h:isN o i=true):o=some i:=by
 cases o with
 | none=>cases h
 | some k=>rw [show k=i from Nat.eq_of_beq_eq_true h]
theorem E6 {o:Option Nat} (h:Ziz o=true):o=none:=by cases o with
 | none=>rfl
 | some _=>cases h
theorem Mj {S S':Sig} {z:Bool} {d k c a b c' a' b':Int} (h:Zbr z d k c a b c' a' b'=true) (hz:z=true->S'.x=0) (hd:z=false->S'.x=S.x+d) (hk:S'.y=k):c+a*S.x+b*S.y=c'+a'*S'.x+b'*S'.y:=by
 have t:∀ {u v:Bool},sel u v false=true->u=true/\v=true:=fun {u v} h=>by cases u; cases h; exact ⟨rfl,h⟩
 have e:∀ {u v:Int},ieq u v=true->u=v:=fun {u v} h=>by
  cases u <;> cases v <;> first | (cases h; done) | exact congrArg _ (Nat.eq_of_beq_eq_true h)
 unfold Zbr at h;cases z
 ·have h:sel (ieq a a') (sel (ieq b (.ofNat 0)) (ieq (c'+a*d+b'*k) c) false) false=true:=h;have hd:=hd rfl;obtain ⟨h1,h⟩:=t h;obtain ⟨h2,h4⟩:=t h;have h1:=e h1;have h2:b=0:=e h2;have h4:=e h4;subst h1 h2;rw [hd,hk,Int.mul_add];omega
 ·have h:sel (ieq a (.ofNat 0)) (sel (ieq b (.ofNat 0)) (ieq c (c'+b'*k)) false) false=true:=h;have hz:=hz rfl;obtain ⟨h1,h⟩:=t h;obtain ⟨h2,h4⟩:=t h;have h1:a=0:=e h1;have h2:b=0:=e h2;have h4:=e h4;subst h1 h2 h4;rw [hz,hk];omega
section
variable {S S':Sig} (X:Vw) (r q:Rho)
structure ZiA:Prop where
 hz:X.z=true->S'.x=0
 hd:X.z=false->S'.x=S.x+X.d
 hk:S'.y=X.k
 old:∀ j i x,X.g.get j=some i->r i=some x->q j=some x
 emp:∀ j,X.g.get j=none->X.e.get j=some 0->∃ x g,q j=some x/\x.gho=some g/\g.val = .slice none 0 0/\∀ b,X.te b=true->S'.Q8 b g.Sl g.made (.slice none 0 0)
 sig:∀ a b,X.tg a b=true->∀ F w v,S.Q8 a F w v->S'.Q8 b F w v
 Zl6:∀ a b,X.tg a b=true->∀ F w o,S.Xi a F w o->S'.Xi b F w o
 Zl7:∀ j,X.g.get j=none->X.e.get j=some 0->∃ x g,q j=some x/\x.gho=some g/\∀ b,X.tm b=true->∀ c,S'.Xi b g.Sl g.made (.map #[] c)
variable {X r q} (hX:@ZiA S S' X r q)
include hX
mutual
theorem SB:∀ (x y:Zb) (u:Value),Y4 X x y=true->@VR S r x u->@VR S' q y u
 | .int j a,y,u,h,hv=>by
  cases y <;> first
   | (cases h; done)
   | (
     rename_i k b;obtain ⟨h1,h2⟩:=Jf h;have h1:=@JE S j k h1;subst h1;have h3:=Mj (S:=S) (S':=S') h2 hX.hz hX.hd hX.hk;cases hv
     have h4:a=b:=by
      have e1:a+(Int.ofNat 0)*S.x+(Int.ofNat 0)*S.y=a:=by show a+0*S.x+0*S.y=a; omega
      have e2:b+(Int.ofNat 0)*S'.x+(Int.ofNat 0)*S'.y=b:=by show b+0*S'.x+0*S'.y=b; omega
      rw [e1,e2] at h3;exact h3
     subst h4
     exact @VR.int S' q j a)
   | (
     rename_i k c' a' b';obtain ⟨h1,h2⟩:=Jf h;have h1:=@JE S j k h1;subst h1;have h3:=Mj (S:=S) (S':=S') h2 hX.hz hX.hd hX.hk;cases hv;refine @VR.sint S' q j c' a' b' a ?_;have e1:a+(Int.ofNat 0)*S.x+(Int.ofNat 0)*S.y=a:=by show a+0*S.x+0*S.y=a; omega
     rw [e1] at h3
     exact h3)
 | .sint j c a b,y,u,h,hv=>by
  cases y <;> first
   | (cases h; done)
   | (
     rename_i k n;obtain ⟨h1,h2⟩:=Jf h;have h1:=@JE S j k h1;subst h1;have h3:=Mj (S:=S) (S':=S') h2 hX.hz hX.hd hX.hk;cases hv;rename_i m hm;have e2:n+(Int.ofNat 0)*S'.x+(Int.ofNat 0)*S'.y=n:=by show n+0*S'.x+0*S'.y=n; omega
     rw [e2,<- hm] at h3;subst h3
     exact @VR.int S' q j m)
   | (
     rename_i k c' a' b';obtain ⟨h1,h2⟩:=Jf h;have h1:=@JE S j k h1;subst h1;have h3:=Mj (S:=S) (S':=S') h2 hX.hz hX.hd hX.hk;cases hv;rename_i m hm
     exact @VR.sint S' q j c' a' b' m (hm.trans h3))
 | .bool a,y,u,h,hv=>by
  cases y <;> first | (cases h; done) | (have h:Nx _ _=true:=h; rw [@Ro S] at h; have h:=eq_of_beq h; subst h; cases hv; exact @VR.bool S' q _)
 | .flt j a,y,u,h,hv=>by
  cases y <;> first | (cases h; done) | (obtain ⟨h1,h2⟩:=Jf h; have h1:=@Rp S _ _ h1; have h2:=Nat.eq_of_beq_eq_true h2; subst h1 h2; cases hv; exact @VR.flt S' q _ _)
 | .Z4 j a c,y,u,h,hv=>by
  cases y <;> first | (cases h; done) | (obtain ⟨h1,h2⟩:=Jf h; obtain ⟨h2,h3⟩:=Jf h2; have h1:=@Rp S _ _ h1; have h2:=Nat.eq_of_beq_eq_true h2; have h3:=Nat.eq_of_beq_eq_true h3; subst h1 h2 h3; cases hv; exact @VR.Z4 S' q _ _ _)
 | .str a,y,u,h,hv=>by
  cases y <;> first | (cases h; done) | (have h:QG _ _=true:=h; rw [@Qp S] at h; have h:=eq_of_beq h; subst h; cases hv; exact @VR.str S' q _)
 | .Zo,y,u,h,hv=>by cases y <;> first | (cases h; done) | (cases hv; exact @VR.Zo S' q)
 | .ptr i a,y,u,h,hv=>by
  cases y <;> first | (cases h; done) | (obtain ⟨h1,h2⟩:=Jf h; have h1:=W4 h1; have h2:=Nat.eq_of_beq_eq_true h2; subst h2; cases hv; rename_i hx; exact @VR.ptr S' q _ _ _ (hX.old _ _ _ h1 hx))
 | .Za,y,u,h,hv=>by
  cases y <;> first
   | (cases h; done)
   | (cases hv; exact @VR.Za S' q)
   | (
     rename_i j b;obtain ⟨h1,h2⟩:=Jf h;obtain ⟨h2,h3⟩:=Jf h2;obtain ⟨x,g,e1,e2,e3,e4⟩:=hX.emp j (E6 h1) (W4 h2);cases hv
     exact @VR.gho S' q j b x g _ e1 e2 e3 (e4 b h3))
 | .Z8,y,u,h,hv=>by cases y <;> first | (cases h; done) | (cases hv; exact @VR.Z8 S' q _ _)
 | .slice i a n c,y,u,h,hv=>by
  cases y with
  | slice j b m e =>
   cases c <;> cases e
   ·obtain ⟨h1,h2⟩:=Jf h;obtain ⟨h2,h3⟩:=Jf h2;have h1:=W4 h1;have h2:=Nat.eq_of_beq_eq_true h2;have h3:=Nat.eq_of_beq_eq_true h3;subst h2 h3;cases hv with
    | slice hx hn hc hu=>exact @VR.slice S' q _ _ _ _ _ _ (hX.old _ _ _ h1 hx) hn hc hu
   ·cases h
   ·cases h
   ·obtain ⟨h1,h2⟩:=Jf h;obtain ⟨h2,h3⟩:=Jf h2;obtain ⟨h3,h4⟩:=Jf h3;have h1:=W4 h1;have h2:=Nat.eq_of_beq_eq_true h2;have h3:=Nat.eq_of_beq_eq_true h3;have h4:=Nat.eq_of_beq_eq_true h4;subst h2 h3 h4;cases hv with
    | slice hx hn hc hu=>exact @VR.slice S' q _ _ _ _ _ _ (hX.old _ _ _ h1 hx) hn hc hu
  | _=>cases c <;> cases h
 | .Zk,y,u,h,hv=>by cases y <;> first | (cases h; done) | (cases hv; exact @VR.Zk S' q)
 | .map i,y,u,h,hv=>by
  cases y <;> first | (cases h; done) | (have h1:=W4 h; cases hv; rename_i hx; exact @VR.map S' q _ _ (hX.old _ _ _ h1 hx))
 | .func f a b,y,u,h,hv=>by
  cases y with
  | func g a' b' =>
   obtain ⟨h1,h2⟩:=Jf (show sel (Nat.beq f g) (sel (JQ X a a') (JQ X b b') false) false=true from h);obtain ⟨h2,h3⟩:=Jf h2;have h1:=Nat.eq_of_beq_eq_true h1;subst h1;cases hv with
   | func _ ha hb=>exact @VR.func S' q _ _ _ _ _ (Yz a a' _ h2 ha) (Yz b b' _ h3 hb)
  | _=>cases h
 | .ZQ,y,u,h,hv=>by cases y <;> first | (cases h; done) | (cases hv; exact @VR.ZQ S' q)
 | .nilIface,y,u,h,hv=>by cases y <;> first | (cases h; done) | (cases hv; exact @VR.nilIface S' q)
 | .iface t a,y,u,h,hv=>by
  cases y with
  | iface k b =>
   obtain ⟨h1,h2⟩:=Jf (show sel (Nat.beq t k) (Y4 X a b) false=true from h);have h1:=Nat.eq_of_beq_eq_true h1;subst h1;cases hv with
   | iface _ hb=>exact @VR.iface S' q _ _ _ (SB a b _ h2 hb)
  | _=>cases h
 | .agg a,y,u,h,hv=>by
  cases y with
  | agg b =>
   cases hv with
   | agg hb=>exact @VR.agg S' q _ _ (Yz a b _ h hb)
  | _=>cases h
 | .tuple a,y,u,h,hv=>by
  cases y with
  | tuple b =>
   cases hv with
   | tuple hb=>exact @VR.tuple S' q _ _ (Yz a b _ h hb)
  | _=>cases h
 | .raw _,y,u,h,hv=>by cases y <;> cases h
 | .gho i a,y,u,h,hv=>by
  cases y <;> first
   | (cases h; done)
   | (
     rename_i j b;obtain ⟨h1,h2⟩:=Jf h;have h1:=W4 h1;cases hv with
     | gho hx hg hu hm=>exact @VR.gho S' q _ _ _ _ _ (hX.old _ _ _ h1 hx) hg hu (hX.sig _ _ h2 _ _ _ hm))
theorem Yz:∀ (x y:List Zb) (u:List Value),JQ X x y=true->@VRs S r x u->@VRs S' q y u
 | [],[],_,_,hv=>by cases hv; exact @VRs.nil S' q
 | [],_::_,_,h,_=>by simp [JQ] at h
 | _::_,[],_,h,_=>by simp [JQ] at h
 | x::xs,y::ys,u,h,hv=>by
  obtain ⟨h1,h2⟩:=Jf (show sel (Y4 X x y) (JQ X xs ys) false=true from (by simpa only [JQ] using h));cases hv with
  | cons ha hb=>exact @VRs.cons S' q _ _ _ _ (SB x y _ h1 ha) (Yz xs ys _ h2 hb)
end
theorem E7:∀ (x y:List Entry) (u:List MapEntry),Tx X x y=true->@ERs S r x u->@ERs S' q y u
 | [],[],_,_,hv=>by cases hv; exact @ERs.nil S' q
 | [],_::_,_,h,_=>by simp [Tx] at h
 | _::_,[],_,h,_=>by simp [Tx] at h
 | (a,b,n)::l,(a',b',m)::k,u,h,hv=>by
  obtain ⟨h1,h⟩:=Jf (show sel (Y4 X a a') (sel (Y4 X b b') (sel (Nat.beq n m) (Tx X l k) false) false) false=true from (by simpa only [Tx] using h));obtain ⟨h2,h⟩:=Jf h;obtain ⟨h3,h4⟩:=Jf h;have h3:=Nat.eq_of_beq_eq_true h3;subst h3;cases hv with
  | cons hh ht=>exact @ERs.cons S' q _ _ _ _ ⟨SB hX a a' _ h1 hh.1,SB hX b b' _ h2 hh.2.1,hh.2.2⟩ (E7 l k _ h4 ht)
theorem ZiB:∀ (b c:Zd) (x:RB) (o:Obj),E5 X b c=true->@BR S r b x o->@BR S' q c x o
 | .cells cs e o,.cells ds f p,x,ob,h,hb=>by
  obtain ⟨h1,hq⟩:=Jf h;have h1:=Nat.eq_of_beq_eq_true h1;subst h1;obtain ⟨h0,vs,rest,t,fr,h4,h5,h6,h7,h8⟩:=hb
  have h2:JQ X cs ds=true/\(p=false->o=false):=by
   cases p
   ·cases o
    ·exact ⟨hq,fun _=>rfl⟩
    ·cases hq
   ·exact ⟨hq,fun h=>by cases h⟩
  exact ⟨h0,vs,rest,t,fr,h4,Yz hX cs ds _ h2.1 h5,h6,fun hp=>h7 (h2.2 hp),h8⟩
 | .map es c,.map fs k,x,ob,h,hb=>by
  obtain ⟨h1,h2⟩:=Jf h;have h1:=Nat.eq_of_beq_eq_true h1;subst h1;obtain ⟨l,h3,h4⟩:=hb;exact ⟨l,h3,E7 hX es fs _ h2 h4⟩
 | .cells _ _ _,.map _ _,_,_,h,_=>by cases h
 | .cells _ _ _,.mapIter _ _ _ _,_,_,h,_=>by cases h
 | .map _ _,.cells _ _ _,_,_,h,_=>by cases h
 | .map _ _,.mapIter _ _ _ _,_,_,h,_=>by cases h
 | .mapIter _ _ _ _,.cells _ _ _,_,_,h,_=>by cases h
 | .mapIter _ _ _ _,.map _ _,_,_,h,_=>by cases h
 | .mapIter _ _ _ _,.mapIter _ _ _ _,_,_,h,_=>by cases h
 | .opq i a,.opq j b,x,ob,h,hb=>by
  obtain ⟨h1,h2⟩:=Jf h;obtain ⟨y,g,h3,h4,h5⟩:=hb;exact ⟨y,g,hX.old _ _ _ (W4 h1) h3,h4,hX.Zl6 _ _ h2 _ _ _ h5⟩
 | .map [] c,.opq j b,x,ob,h,hb=>by
  obtain ⟨h1,h⟩:=Jf h;obtain ⟨h2,h3⟩:=Jf h;obtain ⟨l,h4,h5⟩:=hb;cases h5;subst h4;obtain ⟨y,g,e1,e2,e3⟩:=hX.Zl7 j (E6 h1) (W4 h2);exact ⟨y,g,e1,e2,e3 b h3 c⟩
 | .map (_::_) _,.opq _ _,_,_,h,_=>by cases h
 | .cells _ _ _,.opq _ _,_,_,h,_=>by cases h
 | .mapIter _ _ _ _,.opq _ _,_,_,h,_=>by cases h
 | .opq _ _,.cells _ _ _,_,_,h,_=>by cases h
 | .opq _ _,.map _ _,_,_,h,_=>by cases h
 | .opq _ _,.mapIter _ _ _ _,_,_,h,_=>by cases h
end
theorem CI {X:Vw} {f:Tr Nat} {t:Tr Zd}:∀ {l:List (Nat×Zd)},CH X f t l=true->∀ j b,(j,b)∈l->∃ i c,X.g.get j=some i/\f.get i=some j/\t.get i=some c/\E5 X c b=true
 | [],_,_,_,h=>by cases h
 | (k,c)::l,h,j,b,hm=>by
  obtain ⟨h1,h2⟩:=Jf (show sel (uZ X f t k c) (CH X f t l) false=true from h);rcases List.mem_cons.1 hm with hm | hm
  ·cases hm;unfold uZ at h1;split at h1
   ·rename_i i hi;obtain ⟨h3,h4⟩:=Jf h1;unfold ZdD at h4;split at h4
    ·rename_i c' hc; exact ⟨i,c',hi,W4 h3,hc,h4⟩
    ·cases h4
   ·cases h1
  ·exact CI h2 j b hm
theorem SC {n:Nat}:∀ {l:List (Nat×Nat)},Ty n l=true->∀ j i,(j,i)∈l->j<n
 | [],_,_,_,h=>by cases h
 | (k,c)::l,h,j,b,hm=>by
  obtain ⟨h1,h2⟩:=Jf (show sel (Nat.blt k n) (Ty n l) false=true from h);rcases List.mem_cons.1 hm with hm | hm
  ·cases hm;exact Nat.le_of_ble_eq_true h1
  ·exact SC h2 j b hm
def qU (w:World):RB:=⟨0,0,0,some { val := .slice none 0 0,one:=rfl,nob:=(fun b h=>by cases h),Sl:=fun _=>False,made:=w }⟩
noncomputable def KD (X:Vw) (r:Rho) (w:World):Rho:=fun j=>match X.g.get j with
 | some i=>r i
 | none=>match X.e.get j with
  | some 0=>some (qU w)
  | _=>none
theorem CJ {S S':Sig} {X:Vw} {f:Tr Nat} {L:List (Nat×Zd)} {gl el:List (Nat×Nat)} {n:Nat} {r:Rho} {s:St} {w:World}
  (h:@Rel S r s w) (hg:X.g=Qc gl .lf) (he:X.e=Qc el .lf) (hL:CH X f s.heap L=true) (hb1:Ty n gl=true) (hb2:Ty n el=true)
  (hz:X.z=true->S'.x=0) (hd:X.z=false->S'.x=S.x+X.d) (hk:S'.y=X.k) (jK:∀ a b,X.tg a b=true->∀ F w v,S.Q8 a F w v->S'.Q8 b F w v)
  (hte:∀ b,X.te b=true->S'.Q8 b (fun _=>False) w (.slice none 0 0)) (hto:∀ a b,X.tg a b=true->∀ F w o,S.Xi a F w o->S'.Xi b F w o) (kY:∀ b,X.tm b=true->∀ c,S'.Xi b (fun _=>False) w (.map #[] c)) :
  @ZiA S S' X r (KD X r w)/\@Rel S' (KD X r w) ⟨Qc L .lf,n⟩ w/\(∀ k,Hit (KD X r w) ⟨Qc L .lf,n⟩ k->Hit r s k)/\∀ k,JB (KD X r w) k->JB r k:=by
 obtain ⟨⟨hblk,aau⟩,hap,hkn,hsf⟩:=h;have hold:∀ j i x,X.g.get j=some i->r i=some x->KD X r w j=some x:=fun j i x h1 h2=>by unfold KD; rw [h1]; exact h2
 have eZ:∀ j i,X.g.get j=some i->KD X r w j=r i:=fun j i h1=>by unfold KD; rw [h1]
 have hV:@ZiA S S' X r (KD X r w):=⟨hz,hd,hk,hold,fun j h1 h2=>⟨qU w,_,by unfold KD; rw [h1,h2]; rfl,rfl,rfl,hte⟩,jK,hto,fun j h1 h2=>⟨qU w,_,by unfold KD; rw [h1,h2]; rfl,rfl,kY⟩⟩
 have hbl:∀ j b,(⟨Qc L .lf,n⟩:St).get j=some b->∃ i c,X.g.get j=some i/\f.get i=some j/\s.get i=some c/\E5 X c b=true:=fun j b h1=>CI hL j b (JA h1);have hlt:∀ j i,X.g.get j=some i->j<n:=fun j i h1=>SC hb1 j i (JA (hg▸h1));have hlt2:∀ j i,X.e.get j=some i->j<n:=fun j i h1=>SC hb2 j i (JA (he▸h1))
 have hhit:∀ k,Hit (KD X r w) ⟨Qc L .lf,n⟩ k->Hit r s k:=fun k ⟨j,b,x,h1,h2,h3⟩=>by
  obtain ⟨i,c,e1,e2,e3,e4⟩:=hbl j b h1;rw [eZ j i e1] at h2;exact ⟨i,c,x,e3,h2,h3⟩
 have hgo:∀ j x g,KD X r w j=some x->x.gho=some g->(∃ i,r i=some x)\/x=qU w:=fun j x g h1 h2=>by
  unfold KD at h1;split at h1
  ·exact .inl ⟨_,h1⟩
  ·split at h1
   ·injection h1 with h1; exact .inr h1.symm
   ·cases h1
 refine ⟨hV,@Rel.mk S' _ _ _ (@RelB.mk S' _ _ _ (fun j b x h1 h2 => ?_) fun j hj => ?_) (fun i j b c x y h1 h2 hx hy hxy => ?_) (fun j x h1 => ?_) (fun j x g h1 h2 => ?_),hhit,fun k ⟨j,x,g,h1,h2,h3,h4⟩ => ?_⟩
 ·obtain ⟨i,c,e1,e2,e3,e4⟩:=hbl j b h1;rw [eZ j i e1] at h2;obtain ⟨o,h5,h6⟩:=hblk i c x e3 h2;exact ⟨o,h5,ZiB hV c b x o e4 h6⟩
 ·cases hb:(⟨Qc L .lf,n⟩:St).get j with
  | none=>rfl
  | some b =>
   obtain ⟨i,c,e1,_⟩:=hbl j b hb;have:=hlt j i e1;have hj:n<=j:=hj;omega
 ·obtain ⟨i',c1,e1,e2,e3,e4⟩:=hbl i b h1;obtain ⟨j',c2,f1,f2,f3,f4⟩:=hbl j c h2;rw [eZ i i' e1] at hx;rw [eZ j j' f1] at hy;have:=hap i' j' c1 c2 x y e3 f3 hx hy hxy;subst this;rw [e2] at f2;exact Option.some.inj f2
 ·show j<n;cases hj:X.g.get j with
  | some i=>exact hlt j i hj
  | none =>
   cases hk:X.e.get j with
   | some i=>exact hlt2 j i hk
   | none =>
    unfold KD at h1;rw [hj,hk] at h1;cases h1
 ·rcases hgo j x g h1 h2 with ⟨i,hi⟩ | rfl
  ·exact (hsf i x g hi h2).step (Nat.le_refl _) (fun _ _ _=>rfl) fun k hk => .inl (hhit k hk)
  ·injection h2 with h2
   subst h2;exact ⟨Nat.le_refl _,fun k hk=>hk.elim⟩
 ·rcases hgo j x g h1 h2 with ⟨i,hi⟩ | rfl
  ·exact ⟨i,x,g,hi,h2,h3,h4⟩
  ·injection h2 with h2
   subst h2;exact h3.elim
end Ev
namespace Ev
open Go
section
variable [Sig] {P:Program} {r:Rho} {s:St} {w:World}
theorem Rel.Zf (hr:Rel r s w) {w':World} (hc:Chg (fun _=>False) w w'):Rel r s w':=(Ext.same hr hc).rel
theorem H9 (hr:Rel r s w) {u:Value} {F:Nat->Prop} {t:Nat} (h1:u.oneCell'=true) (h2:∀ b,u ≠ .bool b) (hF:∀ k,F k->¬ Hit r s k) (hm:Sig.Q8 t F w u) :
  ∃ q,Rel q s.VJ w/\r.le q/\VR q (.gho s.next t) u/\(∀ k,Hit q s.VJ k->Hit r s k)/\∀ k,JB q k->JB r k\/F k:=by
 let g:Gh:=⟨u,h1,h2,F,w⟩
 let x:RB:=⟨0,0,0,some g⟩
 have hle:r.le (r.at s.next x):=Rho.JU r x (hr.Qb (Nat.le_refl _));have old:∀ {i},i≠s.next->(r.at s.next x) i=r i:=fun {i} h=>Rho.Zx r x h;have hlow:∀ {i b},s.get i=some b->(r.at s.next x) i=r i:=fun {i b} h=>old (by have:=hr.below h; omega)
 have hhit:∀ k,Hit (r.at s.next x) s.VJ k->Hit r s k:=fun k ⟨i,b,y,hb,hy,hk⟩=>by
  have hb:s.get i=some b:=hb;rw [hlow hb] at hy;exact ⟨i,b,y,hb,hy,hk⟩
 refine ⟨r.at s.next x,⟨⟨fun i b y hb hy => ?_,fun i hi => ?_⟩,fun i j b c y z hb hc hy hz bP => ?_,fun i y hy => ?_,fun i y g' hy hg => ?_⟩,hle,.gho (Rho.Zn _ _ _) rfl rfl hm,hhit,fun k ⟨i,y,g',hy,hg,hf,hl⟩ => ?_⟩
 ·have hb:s.get i=some b:=hb;rw [hlow hb] at hy;obtain ⟨o,h3,h4⟩:=hr.block i b y hb hy;exact ⟨o,h3,h4.mono hle⟩
 ·have hi:s.next+1<=i:=hi;exact hr.far i (by omega)
 ·have hb:s.get i=some b:=hb;have hc:s.get j=some c:=hc;rw [hlow hb] at hy;rw [hlow hc] at hz;exact hr.apart i j b c y z hb hc hy hz bP
 ·show i<s.next+1;by_cases hi:i=s.next
  ·omega
  ·rw [old hi] at hy;have:=hr.known i y hy;omega
 ·by_cases hi:i=s.next
  ·subst hi;rw [Rho.Zn] at hy;cases hy;cases hg;exact ⟨Nat.le_refl _,fun k hk hl=>⟨rfl,fun hh=>hF k hk (hhit k hh)⟩⟩
  ·rw [old hi] at hy;exact (hr.safe i y g' hy hg).step (Nat.le_refl _) (fun _ _ _=>rfl) fun k hk => .inl (hhit k hk)
 ·by_cases hi:i=s.next
  ·subst hi;rw [Rho.Zn] at hy;cases hy;cases hg;exact .inr hf
  ·rw [old hi] at hy;exact .inl ⟨i,y,g',hy,hg,hf,hl⟩
theorem Ga (hr:Rel r s w) {k e:Nat} {cs:List Zb} {vs:List Value} {t:TypeId} (ho:w.heap[k]? = some (.cells ⟨vs⟩ t (0,0))) (hv:VRs r cs vs) (hn:¬ Hit r s k) (hf:¬ JB r k) :
  ∃ q,Rel q (s.new (.cells cs e false)) w/\r.le q/\q s.next=some (RB.of k vs.length e)/\(∀ j,Hit q (s.new (.cells cs e false)) j->Hit r s j\/j=k)/\∀ j,JB q j->JB r j:=by
 let x:RB:=RB.of k vs.length e
 have hle:r.le (r.at s.next x):=Rho.JU r x (hr.Qb (Nat.le_refl _));have old:∀ {i},i≠s.next->(r.at s.next x) i=r i:=fun {i} h=>Rho.Zx r x h
 have two:∀ {i b y},(s.new (.cells cs e false)).get i=some b->(r.at s.next x) i=some y->(i=s.next/\b = .cells cs e false/\y=x)\/(i≠s.next/\s.get i=some b/\r i=some y):=fun {i b y} hb hy=>by
  rw [St.ZC] at hb;by_cases hi:s.next=i
  ·rw [if_pos hi] at hb;subst hi;rw [Rho.Zn] at hy;cases hb;cases hy;exact .inl ⟨rfl,rfl,rfl⟩
  ·rw [if_neg hi] at hb;rw [old (fun e=>hi e.symm)] at hy;exact .inr ⟨fun e=>hi e.symm,hb,hy⟩
 have hhit:∀ j,Hit (r.at s.next x) (s.new (.cells cs e false)) j->Hit r s j\/j=k:=fun j ⟨i,b,y,hb,hy,hk⟩=>by
  rcases two hb hy with ⟨_,_,rfl⟩ | ⟨_,h1,h2⟩
  ·exact .inr hk.symm
  ·exact .inl ⟨i,b,y,h1,h2,hk⟩
 refine ⟨r.at s.next x,⟨⟨fun i b y hb hy => ?_,fun i hi => ?_⟩,fun i j b c y z hb hc hy hz bP => ?_,fun i y hy => ?_,fun i y g' hy hg => ?_⟩,hle,Rho.Zn _ _ _,hhit,fun j ⟨i,y,g',hy,hg,hf,hl⟩ => ?_⟩
 ·rcases two hb hy with ⟨rfl,rfl,rfl⟩ | ⟨_,h1,h2⟩
  ·exact ⟨_,ho,rfl,vs,[],t,(0,0),by rw [List.append_nil],hv.mono hle,by rw [List.append_nil],fun _=>rfl,fun i _ h=>by have:=h.2; simp at this⟩
  ·obtain ⟨o,h3,h4⟩:=hr.block i b y h1 h2;exact ⟨o,h3,h4.mono hle⟩
 ·have hi:s.next+1<=i:=hi;rw [St.ZC,if_neg (by omega)];exact hr.far i (by omega)
 ·rcases two hb hy with ⟨rfl,rfl,rfl⟩ | ⟨_,h1,h2⟩ <;> rcases two hc hz with ⟨rfl,rfl,rfl⟩ | ⟨_,h3,h4⟩
  ·rfl
  ·exact absurd ⟨j,c,z,h3,h4,bP.symm⟩ hn
  ·exact absurd ⟨i,b,y,h1,h2,bP⟩ hn
  ·exact hr.apart i j b c y z h1 h3 h2 h4 bP
 ·show i<s.next+1;by_cases hi:i=s.next
  ·omega
  ·rw [old hi] at hy;have:=hr.known i y hy;omega
 ·by_cases hi:i=s.next
  ·subst hi;rw [Rho.Zn] at hy;cases hy;cases hg
  ·rw [old hi] at hy;obtain ⟨h1,h2⟩:=hr.safe i y g' hy hg;refine ⟨h1,fun j hj hl=>⟨(h2 j hj hl).1,fun hh => ?_⟩⟩;rcases hhit j hh with h3 | rfl
   ·exact (h2 j hj hl).2 h3
   ·exact hf ⟨i,y,g',hy,hg,hj,hl⟩
 ·by_cases hi:i=s.next
  ·subst hi;rw [Rho.Zn] at hy;cases hy;cases hg
  ·rw [old hi] at hy;exact ⟨i,y,g',hy,hg,hf,hl⟩
end
end Ev
section
open Go
namespace Ev
noncomputable section
def CK:List (Nat×Nat)->Nat->Option Nat
 | [],_=>none
 | (x,y)::l,a=>sel (Nat.beq x a) (some y) (CK l a)
def Gb:List (Nat×Nat×Nat)->Nat->Nat->Option Nat
 | [],_,_=>none
 | (x,y,z)::l,a,b=>sel (Nat.beq x a) (sel (Nat.beq y b) (some z) (Gb l a b)) (Gb l a b)
def Pw:List (Nat×Nat×Bool×Nat)->Nat->Nat->Bool->Option Nat
 | [],_,_,_=>none
 | (x,y,z,u)::l,a,b,c=>sel (Nat.beq x a) (sel (Nat.beq y b) (sel (Nx z c) (some u) (Pw l a b c)) (Pw l a b c)) (Pw l a b c)
def CL:List (Nat×List Int)->Nat->Option (List Int)
 | [],_=>none
 | (x,y)::l,a=>sel (Nat.beq x a) (some y) (CL l a)
def CM (v:Bool) (l:List Nat) (a:Nat):Option Bool:=sel (WT a l) (some v) none
def Gc:List (Nat×Nat×Bool)->Nat->Nat->Option Bool
 | [],_,_=>none
 | (x,y,z)::l,a,b=>sel (Nat.beq x a) (sel (Nat.beq y b) (some z) (Gc l a b)) (Gc l a b)
def Gd:List (Nat×Nat×Nat×Nat)->Nat->Nat->Option (Nat×Nat)
 | [],_,_=>none
 | (x,y,z,u)::l,a,b=>sel (Nat.beq x a) (sel (Nat.beq y b) (some (z,u)) (Gd l a b)) (Gd l a b)
def lookW:List (Nat×List Nat×List (List UInt8×Nat))->Nat->Option (List Nat×List (List UInt8×Nat))
 | [],_=>none
 | (x,y)::l,a=>sel (Nat.beq x a) (some y) (lookW l a)
structure Tb where
 add:List (Nat×Nat×Nat):=[]
 put:List (Nat×Nat×Bool×Nat):=[]
 flip:List (Nat×Nat):=[]
 copy:List (Nat×Nat):=[]
 Zbs:List Nat:=[]
 plain:List Nat:=[]
 Ge:List Nat:=[]
 CN:List Nat:=[]
 rows:List (Nat×List Int):=[]
 kinds:List (Nat×List Int):=[]
 Zbt:List (Nat×Nat×Bool):=[]
 kf:List (Nat×List Nat×List (List UInt8×Nat)):=[]
 chg:List (Nat×Nat×Nat×Nat):=[]
def glL (t:Tb):List (Nat×Orc):=[(112,Zhy (Gb t.add) (Pw t.put)),(113,Zdl (CK t.flip)),(40,Zdl (CK t.copy)),(172,Ri (CM true t.Zbs)),(161,Ri (CM true t.plain)),
 (183,Ri (CM false t.Ge)),(167,Ri (CM false t.CN)),(164,Zhw (CL t.rows)),(162,ZkG 163 175 (CL t.kinds)),
 (166,oOf (Gc t.Zbt)),(401,E4),(181,ZkM (lookW t.kf) (Gd t.chg))]
end
section
variable [Sig]
theorem SD:∀ {l:List (Nat×Nat)} {a b:Nat},CK l a=some b->(a,b)∈l
 | [],_,_,h=>by cases h
 | (x,y)::l,a,b,h=>by
  rcases Ze (show sel (Nat.beq x a) (some y) (CK l a)=some b from h) with ⟨h1,h2⟩ | ⟨_,h2⟩
  ·cases h2; rw [Nat.eq_of_beq_eq_true h1]; exact List.mem_cons_self
  ·exact List.mem_cons_of_mem _ (SD h2)
theorem SE:∀ {l:List (Nat×Nat×Nat)} {a b c:Nat},Gb l a b=some c->(a,b,c)∈l
 | [],_,_,_,h=>by cases h
 | (x,y,z)::l,a,b,c,h=>by
  rcases Ze (show sel (Nat.beq x a) (sel (Nat.beq y b) (some z) (Gb l a b)) (Gb l a b)=some c from h) with ⟨h1,h2⟩ | ⟨_,h2⟩
  ·rcases Ze h2 with ⟨h3,h4⟩ | ⟨_,h4⟩
   ·cases h4; rw [Nat.eq_of_beq_eq_true h1,Nat.eq_of_beq_eq_true h3]; exact List.mem_cons_self
   ·exact List.mem_cons_of_mem _ (SE h4)
  ·exact List.mem_cons_of_mem _ (SE h2)
theorem YB:∀ {l:List (Nat×Nat×Bool×Nat)} {a b:Nat} {c:Bool} {d:Nat},Pw l a b c=some d->(a,b,c,d)∈l
 | [],_,_,_,_,h=>by cases h
 | (x,y,z,u)::l,a,b,c,d,h=>by
  rcases Ze (show sel (Nat.beq x a) (sel (Nat.beq y b) (sel (Nx z c) (some u) (Pw l a b c)) (Pw l a b c)) (Pw l a b c)=some d from h) with ⟨h1,h2⟩ | ⟨_,h2⟩
  ·rcases Ze h2 with ⟨h3,h4⟩ | ⟨_,h4⟩
   ·rcases Ze h4 with ⟨h5,h6⟩ | ⟨_,h6⟩
    ·cases h6;rw [Ro] at h5;rw [Nat.eq_of_beq_eq_true h1,Nat.eq_of_beq_eq_true h3,eq_of_beq h5]; exact List.mem_cons_self
    ·exact List.mem_cons_of_mem _ (YB h6)
   ·exact List.mem_cons_of_mem _ (YB h4)
  ·exact List.mem_cons_of_mem _ (YB h2)
theorem SF:∀ {l:List (Nat×List Int)} {a:Nat} {b:List Int},CL l a=some b->(a,b)∈l
 | [],_,_,h=>by cases h
 | (x,y)::l,a,b,h=>by
  rcases Ze (show sel (Nat.beq x a) (some y) (CL l a)=some b from h) with ⟨h1,h2⟩ | ⟨_,h2⟩
  ·cases h2; rw [Nat.eq_of_beq_eq_true h1]; exact List.mem_cons_self
  ·exact List.mem_cons_of_mem _ (SF h2)
theorem SG:∀ {l:List (Nat×Nat×Nat×Nat)} {a b:Nat} {p:Nat×Nat},Gd l a b=some p->(a,b,p.1,p.2)∈l
 | [],_,_,_,h=>by cases h
 | (x,y,z,u)::l,a,b,p,h=>by
  rcases Ze (show sel (Nat.beq x a) (sel (Nat.beq y b) (some (z,u)) (Gd l a b)) (Gd l a b)=some p from h) with ⟨h1,h2⟩ | ⟨_,h2⟩
  ·rcases Ze h2 with ⟨h3,h4⟩ | ⟨_,h4⟩
   ·cases h4; rw [Nat.eq_of_beq_eq_true h1,Nat.eq_of_beq_eq_true h3]; exact List.mem_cons_self
   ·exact List.mem_cons_of_mem _ (SG h4)
  ·exact List.mem_cons_of_mem _ (SG h2)
theorem Gf:∀ {l:List (Nat×List Nat×List (List UInt8×Nat))} {a:Nat} {b:List Nat×List (List UInt8×Nat)},lookW l a=some b->(a,b)∈l
 | [],_,_,h=>by cases h
 | (x,y)::l,a,b,h=>by
  rcases Ze (show sel (Nat.beq x a) (some y) (lookW l a)=some b from h) with ⟨h1,h2⟩ | ⟨_,h2⟩
  ·cases h2; rw [Nat.eq_of_beq_eq_true h1]; exact List.mem_cons_self
  ·exact List.mem_cons_of_mem _ (Gf h2)
theorem SH:∀ {l:List (Nat×Nat×Bool)} {a b:Nat} {c:Bool},Gc l a b=some c->(a,b,c)∈l
 | [],_,_,_,h=>by cases h
 | (x,y,z)::l,a,b,c,h=>by
  rcases Ze (show sel (Nat.beq x a) (sel (Nat.beq y b) (some z) (Gc l a b)) (Gc l a b)=some c from h) with ⟨h1,h2⟩ | ⟨_,h2⟩
  ·rcases Ze h2 with ⟨h3,h4⟩ | ⟨_,h4⟩
   ·cases h4; rw [Nat.eq_of_beq_eq_true h1,Nat.eq_of_beq_eq_true h3]; exact List.mem_cons_self
   ·exact List.mem_cons_of_mem _ (SH h4)
  ·exact List.mem_cons_of_mem _ (SH h2)
theorem JY {v:Bool} {l:List Nat} {a:Nat} {c:Bool} (h:CM v l a=some c):a∈l/\c=v:=by
 rcases Ze (show sel (WT a l) (some v) none=some c from h) with ⟨h1,h2⟩ | ⟨_,h2⟩
 ·cases h2; exact ⟨WA.1 h1,rfl⟩
 ·cases h2
end
structure ZdF (M:Nat->Mn) (t:Tb):Prop where
 nz:M 0 = .nz
 add:∀ a b c,(a,b,c)∈t.add->∃ S S' bq,M a = .set S/\M b = .set S'/\M c = .set bq/\Sm bq/\∀ r,nf bq r=nf S r+nf S' r
 put:∀ a r b c,(a,r,b,c)∈t.put->∃ S l bq,M a = .set S/\M r = .row l/\M c = .set bq/\Sm bq/\∀ r,nf bq r=nf S r+if l=r then (if b then 1 else -1) else 0
 flip:∀ a c,(a,c)∈t.flip->∃ S S',M a = .set S/\M c = .set S'/\Sm S/\Sm S'/\∀ r,nf S' r = - nf S r
 copy:∀ a c,(a,c)∈t.copy->∃ S,M a = .set S/\M c = .set S/\Sm S
 Zbs:∀ a∈t.Zbs,∃ S,M a = .set S
 plain:∀ a∈t.plain,∃ S,M a = .set S/\∀ p∈S,0<=p.2
 Ge:∀ a∈t.Ge,∃ S,M a = .set S/\ZN (Zj S)<513
 CN:∀ a∈t.CN,∃ S,M a = .set S/\ZN (Zj S)<64
 rows:∀ a ks,(a,ks)∈t.rows->∃ l,M a = .row l/\l.map (·.k)=ks
 kinds:∀ a ks,(a,ks)∈t.kinds->∃ S,M a = .set S/\∀ p∈S,p.1.map (·.k)=ks
 Zbt:∀ a r b,(a,r,b)∈t.Zbt->∃ S l,M a = .set S/\M r = .row l/\(b=true↔Jk S l≠0) /\ -1000000<=Jk S l/\Jk S l<=1000000
 chg:∀ a kf d a' o,(a,kf)∈t.kf->(a,d,a',o)∈t.chg->∃ I D I' O,M a = .obj (X1 kf.1 (VO kf.2) I)/\M d = .set D/\M a' = .obj (X1 kf.1 (VO kf.2) I')/\M o = .set O/\Ts kf.1 (VO kf.2) I D I' O
 Xi:∀ a φ,M a = .obj φ -> ∀ F w o,φ F w o->∃ es c,o = .map es c
theorem ZkN [Sig] {M:Nat->Mn} (hM:Sig.Q8=QK M) (hO:Sig.Xi=Kz M) {t:Tb} (ok:ZdF M t):∀ x∈glL t,Qe prog x.1 x.2:=by
 intro x hx;simp only [glL,List.mem_cons,List.not_mem_nil,or_false] at hx;rcases hx with rfl | rfl | rfl | rfl | rfl | rfl | rfl | rfl | rfl | rfl | rfl | rfl
 ·exact UF hM (fun a b c h=>ok.add a b c (SE h)) (fun a r b c h=>ok.put a r b c (YB h)) func112 (by kernel_rfl) rfl
 ·exact Uz hM (fun a c h=>ok.flip a c (SD h)) func113 (by kernel_rfl) rfl
 ·exact UB hM (fun a c h=>ok.copy a c (SD h)) func40 (by kernel_rfl) rfl
 ·exact Cz hM (fun a c h=>⟨(JY h).2,ok.Zbs a (JY h).1⟩) func172 (by kernel_rfl) rfl
 ·exact CB hM (fun a c h=>⟨(JY h).2,ok.plain a (JY h).1⟩) func161 (by kernel_rfl) rfl
 ·exact CD hM (fun a c h=>⟨(JY h).2,ok.Ge a (JY h).1⟩) func183 (by kernel_rfl) rfl
 ·exact CE hM (fun a c h=>⟨(JY h).2,ok.CN a (JY h).1⟩) func167 (by kernel_rfl) rfl
 ·exact UD hM (fun a c h=>ok.rows a c (SF h)) func164 (by kernel_rfl) rfl
 ·exact Zbo hM (fun a c h=>ok.kinds a c (SF h)) func162 (by kernel_rfl) rfl (fun _ _=>call163 _ _) (fun _ _=>call175 _ _)
 ·exact Zdz hM ok.nz (fun a r b h=>ok.Zbt a r b (SH h)) func166 (by kernel_rfl) rfl
 ·exact FG func401 (by kernel_rfl) (by kernel_rfl) (by kernel_rfl) (by kernel_rfl) fun t F w o h=>by
   rw [hO] at h;unfold Kz at h;split at h
   ·rename_i φ hm;exact ok.Xi _ φ hm F w o h
   ·cases h
 ·exact Zbq hM hO (fun a d kf p h1 h2=>ok.chg a kf d p.1 p.2 (Gf h1) (SG h2)) func181 (by kernel_rfl) rfl
end Ev
end
namespace Ev
open Go
noncomputable section
def Zbu (n:Nat):Vn:=fun i=>some (i+n)
def upL (n:Nat):List (Nat×Zd)->Option (List (Nat×Zd))
 | []=>some []
 | (i,b)::l=>match Sf (Zbu n) b,upL n l with
  | some b,some l=>some ((i+n,b)::l)
  | _,_=>none
def ZdG (s:St) (m:Nat) (v:Option Zb) (post:Option (List (Nat×Zd))):R:=match v,post with
 | some v,some post => .ok v ⟨Qc post s.heap,s.next+m⟩
 | _,_ => .bad
def ZhB:Vn:=fun _=>none
def FH (l:List Zb) (o:Option (List Zb)):Bool:=match o with
 | some k=>JP l k
 | none=>false
def upR (args:List Zb) (s:St):List Ent->R
 | [] => .bad
 | e::l=>sel (FH e.args (YZ ZhB args)) (ZdG s e.m (TZ (Zbu s.next) e.v) (upL s.next e.post)) (upR args s l)
def upO (T:List Ent):Orc:=⟨fun args s=>upR args s T⟩
def CO (e:Ent):Bool:=match e.pre with
 | []=>sel (Nat.beq e.n 0) (Zbv e.S' e.post) false
 | _=>false
end
variable [Sig] {P:Program}
theorem E8 {n:Nat}:∀ {l l':List (Nat×Zd)},upL n l=some l'->∀ {j:Nat} {b':Zd},(j,b')∈l'->∃ i b,j=i+n/\(i,b)∈l/\Sf (Zbu n) b=some b'
 | [],l',h,j,b',hm=>by cases h; cases hm
 | (i,b)::l,l',h,j,b',hm=>by
  simp only [upL] at h;split at h
  ·rename_i c k h1 h2;cases h;rcases List.mem_cons.1 hm with hm | hm
   ·cases hm;exact ⟨i,b,rfl,List.mem_cons_self,h1⟩
   ·obtain ⟨i',b0,h3,h4,h5⟩:=E8 h2 hm;exact ⟨i',b0,h3,List.mem_cons_of_mem _ h4,h5⟩
  ·cases h
theorem ZdH {e:Ent} (h:CO e=true):e.pre=[]/\e.n=0/\Zbv e.S' e.post=true:=by
 unfold CO at h;split at h
 ·rename_i hp;obtain ⟨h1,h2⟩:=ZG h;exact ⟨hp,ZF h1,h2⟩
 ·cases h
def Rho.up (r q:Rho) (n:Nat):Rho:=fun i=>if i<n then r i else q (i-n)
theorem ve {f:FuncId}:∀ {T:List Ent},(∀ e∈T,e.f=f/\CO e=true/\Cf P e)->Qe P f (upO T)
 | [],_=>fun args s v s' h=>by cases h
 | e::T,hT=>fun args s v s' h r w us hr hv=>by
  have h:sel (FH e.args (YZ ZhB args)) (ZdG s e.m (TZ (Zbu s.next) e.v) (upL s.next e.post)) (upR args s T) = .ok v s':=h;rcases Ze h with ⟨h1,h⟩ | ⟨_,h⟩
  ·obtain ⟨rfl,hfree,he⟩:=hT e List.mem_cons_self;obtain ⟨hp,hn,hall⟩:=ZdH hfree
   have hargs:VRs (fun _=>none) e.args us:=by
    unfold FH at h1;split at h1
    ·rename_i k hk;rw [JZ _ _ h1];exact hv.ren (fun i j x hg _=>by cases hg) hk
    ·cases h1
   have hS:∀ i,e.S.get i=none:=fun i=>by
    unfold Ent.S;rw [hp];exact Tz i
   have mh:e.S.next=0:=hn;have h0:Rel (fun _=>none) e.S w:=⟨⟨fun i b x hb hx=>(by cases hx),fun i _=>hS i⟩,fun i j b c x y hb hc hx=>(by cases hx),fun i x hx=>(by cases hx),fun i x g hx=>(by cases hx)⟩
   unfold ZdG at h;split at h
   ·rename_i v1 post hv1 hpost;cases h;refine (he _ w us h0 hargs).mono fun u w' ⟨q,hx,aP⟩=>⟨r.up q s.next,?_,?_⟩
    ·have hS':∀ i b,(i,b)∈e.post->e.S'.get i=some b:=fun i b hm=>T5 hall i b hm;have hfr:∀ k,k<w.heap.size->w'.heap[k]? = w.heap[k]? := fun k hk=>hx.frame k hk fun ⟨i,b,x,_,hx,_⟩=>(by cases hx)
     have vg:Hq q (Zbu s.next) (r.up q s.next):=fun i j x hg hxi=>by
      cases hg;show (if i+s.next<s.next then r (i+s.next) else q (i+s.next-s.next))=_;rw [if_neg (by omega),Nat.add_sub_cancel];exact hxi
     have low:∀ {i},i<s.next->(r.up q s.next) i=r i:=fun {i} hi=>if_pos hi
     have high:∀ {i},(r.up q s.next) (i+s.next)=q i:=fun {i}=>by
      show (if i+s.next<s.next then r (i+s.next) else q (i+s.next-s.next))=_;rw [if_neg (by omega),Nat.add_sub_cancel]
     have hle:r.le (r.up q s.next):=fun i x hi=>by rw [low (hr.known i x hi)]; exact hi
     have two:∀ i b,(⟨Qc post s.heap,s.next+e.m⟩:St).get i=some b->(i<s.next/\s.get i=some b)\/∃ j b0,i=j+s.next/\e.S'.get j=some b0/\j<e.m/\Sf (Zbu s.next) b0=some b:=fun i b hb=>by
      have hb:(Qc post s.heap).get i=some b:=hb;rcases Ny post s.heap i b hb with h2 | h2
      ·obtain ⟨j,b0,rfl,h3,h4⟩:=E8 hpost h2;have h5:=hS' j b0 h3;exact .inr ⟨j,b0,rfl,h5,hx.rel.below h5,h4⟩
      ·exact .inl ⟨hr.below h2,h2⟩
     have iy:∀ {i b x},s.get i=some b->r i=some x->x.blk<w.heap.size:=fun {i b x} hb hx=>by
      obtain ⟨o,h2,_⟩:=hr.block i b x hb hx;exact (Array.getElem?_eq_some_iff.1 h2).1
     have fe:∀ {j b x},e.S'.get j=some b->q j=some x->w.heap.size<=x.blk:=fun {j b x} hb hxj=>by
      rcases hx.XP x.blk ⟨j,b,x,hb,hxj,rfl⟩ with ⟨i,b',x',h2,_⟩ | h2
      ·rw [hS i] at h2; cases h2
      ·exact h2
     refine ⟨⟨⟨fun i b x hb hxi => ?_,fun i hi => ?_⟩,fun i j b c x y hb hc hxi hyj hxy => ?_,fun i x hxi => ?_,fun i x g hxi hg => ?_⟩,hle,by show s.next<=s.next+e.m; omega,hx.os,hx.tape,hx.output,hx.size,fun k hk _=>hfr k hk,fun i hi _ b hb => ?_,fun i hi hg => ?_,fun k ⟨i,b,x,hb,hxi,hk⟩ => ?_,fun i fT hq => ?_,fun k ⟨i,x,g,hxi,hg,hf,hl⟩ => ?_⟩
     ·rcases two i b hb with ⟨h2,h3⟩ | ⟨j,b0,rfl,h3,_,h4⟩
      ·rw [low h2] at hxi;obtain ⟨o,h5,h6⟩:=hr.block i b x h3 hxi;exact ⟨o,by rw [hfr _ (iy h3 hxi)]; exact h5,h6.mono hle⟩
      ·rw [high] at hxi;obtain ⟨o,h5,h6⟩:=hx.rel.block j b0 x h3 hxi;exact ⟨o,h5,h6.ren vg h4⟩
     ·have hi:s.next+e.m<=i:=hi;cases hb:(⟨Qc post s.heap,s.next+e.m⟩:St).get i with
      | none=>rfl
      | some b =>
       rcases two i b hb with ⟨h2,_⟩ | ⟨j,b0,rfl,_,h2,_⟩ <;> omega
     ·rcases two i b hb with ⟨h2,h3⟩ | ⟨i0,b0,rfl,h3,_,h4⟩ <;> rcases two j c hc with ⟨h5,h6⟩ | ⟨j0,c0,rfl,h6,_,h7⟩
      ·rw [low h2] at hxi;rw [low h5] at hyj;exact hr.apart i j b c x y h3 h6 hxi hyj hxy
      ·rw [low h2] at hxi;rw [high] at hyj;have:=iy h3 hxi;have:=fe h6 hyj;omega
      ·rw [high] at hxi;rw [low h5] at hyj;have:=fe h3 hxi;have:=iy h6 hyj;omega
      ·rw [high] at hxi hyj;rw [hx.rel.apart i0 j0 b0 c0 x y h3 h6 hxi hyj hxy]
     ·show i<s.next+e.m;by_cases hi:i<s.next
      ·omega
      ·have hxi:(if i<s.next then r i else q (i-s.next))=some x:=hxi;rw [if_neg hi] at hxi;have:i-s.next<e.m:=hx.rel.known _ x hxi;omega
     ·have XP:∀ k,Hit (r.up q s.next) ⟨Qc post s.heap,s.next+e.m⟩ k->Hit r s k\/Hit q e.S' k:=fun k ⟨i,b,x,hb,hxi,hk⟩=>by
       rcases two i b hb with ⟨h2,h3⟩ | ⟨j,b0,rfl,h3,_,_⟩
       ·rw [low h2] at hxi;exact .inl ⟨i,b,x,h3,hxi,hk⟩
       ·rw [high] at hxi;exact .inr ⟨j,b0,x,h3,hxi,hk⟩
      have pF:∀ k,Hit q e.S' k->w.heap.size<=k:=fun k ⟨j,b,x,hb,hxj,hk⟩=>hk▸fe hb hxj;by_cases hi:i<s.next
      ·rw [low hi] at hxi
       exact (hr.safe i x g hxi hg).step hx.size (fun k hk _=>hfr k hk) fun k hk=>by
        rcases XP k hk with h1 | h1
        ·exact .inl h1
        ·exact .inr (pF k h1)
      ·have hxi:(if i<s.next then r i else q (i-s.next))=some x:=hxi;rw [if_neg hi] at hxi;obtain ⟨h1,h2⟩:=hx.rel.safe _ x g hxi hg;refine ⟨h1,fun k hk hl=>⟨(h2 k hk hl).1,fun hh => ?_⟩⟩;rcases XP k hh with h3 | h3
       ·have h4:=hr.lt h3;rcases hx.Wl k ⟨_,x,g,hxi,hg,hk,hl⟩ with ⟨i',x',g',h5,_⟩ | h5
        ·cases h5
        ·omega
       ·exact (h2 k hk hl).2 h3
     ·rcases two i b hb with ⟨_,h3⟩ | ⟨j,b0,rfl,_⟩
      ·exact h3
      ·omega
     ·cases hb:(⟨Qc post s.heap,s.next+e.m⟩:St).get i with
      | none=>rfl
      | some b =>
       rcases two i b hb with ⟨_,h3⟩ | ⟨j,b0,rfl,_⟩
       ·rw [hg] at h3; cases h3
       ·omega
     ·rcases two i b hb with ⟨h2,h3⟩ | ⟨j,b0,rfl,h3,_,_⟩
      ·rw [low h2] at hxi;exact .inl ⟨i,b,x,h3,hxi,hk⟩
      ·rw [high] at hxi;exact .inr (hk▸fe h3 hxi)
     ·by_cases hi:i<s.next
      ·rw [low hi] at hq;exact absurd fT hq
      ·omega
     ·by_cases hi:i<s.next
      ·rw [low hi] at hxi;exact .inl ⟨i,x,g,hxi,hg,hf,hl⟩
      ·have hxi:(if i<s.next then r i else q (i-s.next))=some x:=hxi;rw [if_neg hi] at hxi;rcases hx.Wl k ⟨_,x,g,hxi,hg,hf,hl⟩ with ⟨i',x',g',h5,_⟩ | h5
       ·cases h5
       ·exact .inr h5
    ·exact aP.ren (fun i j x hg hxi=>by
      cases hg;show (if i+s.next<s.next then r (i+s.next) else q (i+s.next-s.next))=_;rw [if_neg (by omega),Nat.add_sub_cancel]
      exact hxi) hv1
   ·cases h
  ·exact ve (T:=T) (fun e he=>hT e (List.mem_cons_of_mem _ he)) args s v s' h r w us hr hv
end Ev
end Go.Proofs.YtheflbaejhlboaaGreatDoor
