/- Lemmas for a law of confluencetop. -/
import Derived.Test.YtheflbaejhlboaaGreatDoorTopGp13
set_option linter.all false
namespace Go.Proofs.YtheflbaejhlboaaGreatDoor
open Tryz
section
open Go
theorem T3 (S:List (List Vl×Int)) (r:List Vl):nf (Xh S) r = - nf S r:=by
 induction S with
 | nil=>rfl
 | cons p S ih =>
  show nf ((p.1,-p.2)::Xh S) r=_;rw [nf,nf,ih];split <;> omega
theorem Hm (S:List (List Vl×Int)):ZU (Zi (Xh S))=ZU (Zi S):=by
 induction S with
 | nil=>rfl
 | cons p S ih =>
  show ZU (ZB (p.1,-p.2)::Zi (Xh S))=ZU (ZB p::Zi S);rw [ZU,ZU,ih];unfold ZB;simp only;omega
theorem Sm.flip {S:List (List Vl×Int)} (h:Sm S):Sm (Xh S) where
 set:=by
  refine ⟨fun p hp => ?_,fun p hp => ?_,?_⟩
  ·obtain ⟨q,hq,rfl⟩:=List.mem_map.1 hp;exact h.set.row q hq
  ·obtain ⟨q,hq,rfl⟩:=List.mem_map.1 hp;have:=h.set.net q hq;simp only;omega
  ·unfold Xh;rw [List.pairwise_map];exact h.set.ord
 few:=by unfold Xh; rw [List.length_map]; exact h.few
 sum:=by rw [Hm]; exact h.sum
theorem R9 (lim:Int):∀ (l:List Itm) (n:Int),n+ZU l<lim->Kh lim l n=false
 | [],_,_=>rfl
 | x::l,n,h=>by
  rw [ZU] at h;have hx:x.net<=(x.a:Int):=by unfold Itm.net; omega
  rw [Kh,if_neg (by omega)];exact R9 lim l _ (by omega)
namespace Ev
noncomputable section
def Zks (s:St) (o:Option Bool):R:=match o with
 | some b => .ok (.bool b) s
 | none => .bad
def uJ (T:Nat->Option Bool) (args:List Zb) (s:St):R:=match args with
 | [.gho _ a]=>Zks s (T a)
 | _ => .bad
def T4 (T:Nat->Option Bool):Orc:=⟨uJ T⟩
end
section
variable [Sig] {M:Nat->Mn} (hM:Sig.Q4=QK M)
theorem Ext.same {r:Rho} {s:St} {w w':World} (hr:Rel r s w) (hc:Chg (fun _=>False) w w'):Ext r s w r s w' :=
 (Ext.refl hr).grow (fun k hk=>hc.block k hk fun h=>h) hc.size hc.os hc.tape hc.output
include hM
theorem Hn {f:FuncId} {T:Nat->Option Nat} (hT:∀ a c,T a=some c->∃ S S',M a = .set S/\M c = .set S'/\Sm S' /\
   ∀ (F:Nat->Prop) (w:World) (v:Value),Sm S->Zp F w v (Zi S)->Calls prog f #[v] w (Neu w fun u w'=>Zp (new w) w' u (Zi S')))
  {fn:Func} {b:Code} (hf:prog.funcs[f]? = some fn) (hname:(fn.name== "runtime.NumGoroutine")=false) (hb:fn.body=some b):Qc prog f (Zda T):=by
 intro args s v s' h r w us hr hv;have h:tZ T args s = .ok v s':=h;unfold tZ at h;split at h
 ·rename_i i a _;cases hv with
  | cons hx ht =>
   cases ht;cases hc:T a with
   | none=>rw [hc] at h; cases h
   | some c =>
    rw [hc] at h;cases h;obtain ⟨S,S',m1,m2,hs,hcall⟩:=hT a c hc;obtain ⟨z1,a1⟩:=XG hM hr hx m1;refine Xf hf hname hb ((hcall _ _ _ z1 a1).mono ?_);rintro _ w' ⟨u,rfl,h4,h5⟩;obtain ⟨q,e1,e2⟩:=P5 hM hr h5 (fun k hk _ => .inr hk) m2 hs h4;exact ⟨_,rfl,q,e1,e2⟩
 ·cases h
theorem WS {f:FuncId} {T:Nat->Option Bool} (hT:∀ a c,T a=some c->∃ S,M a = .set S /\
   ∀ (F:Nat->Prop) (w:World) (v:Value),Sm S->Zp F w v (Zi S)->Calls prog f #[v] w fun e w'=>e = .returned (.bool c)/\Chg (fun _=>False) w w')
  {fn:Func} {b:Code} (hf:prog.funcs[f]? = some fn) (hname:(fn.name== "runtime.NumGoroutine")=false) (hb:fn.body=some b):Qc prog f (T4 T):=by
 intro args s v s' h r w us hr hv;have h:uJ T args s = .ok v s':=h;unfold uJ at h;split at h
 ·rename_i i a _;cases hv with
  | cons hx ht =>
   cases ht;cases hc:T a with
   | none=>rw [hc] at h; cases h
   | some c =>
    rw [hc] at h;cases h;obtain ⟨S,m1,hcall⟩:=hT a c hc;obtain ⟨z1,a1⟩:=XG hM hr hx m1;refine Xf hf hname hb ((hcall _ _ _ z1 a1).mono ?_);rintro _ w' ⟨rfl,h5⟩;exact ⟨_,rfl,r,Ext.same hr h5,.bool _⟩
 ·cases h
theorem Uo {T:Nat->Option Nat} (hT:∀ a c,T a=some c->∃ S S',M a = .set S/\M c = .set S'/\Sm S/\Sm S'/\∀ r,nf S' r = - nf S r)
  {fn:Func} {b:Code} (hf:prog.funcs[113]? = some fn) (hname:(fn.name== "runtime.NumGoroutine")=false) (hb:fn.body=some b):Qc prog 113 (Zda T) :=
 Hn hM (fun a c h=>by
  obtain ⟨S,S',m1,m2,hs1,hs,h1⟩:=hT a c h;have e:S'=Xh S:=ZP.uniq hs.set hs1.flip.set fun r=>by rw [h1,T3]
  exact ⟨S,S',m1,m2,hs,fun F w v hz ha=>by subst e; exact Cj ha hz.zr (by have:=hz.few; omega)⟩) hf hname hb
theorem Up {T:Nat->Option Nat} (hT:∀ a c,T a=some c->∃ S,M a = .set S/\M c = .set S/\Sm S)
  {fn:Func} {b:Code} (hf:prog.funcs[40]? = some fn) (hname:(fn.name== "runtime.NumGoroutine")=false) (hb:fn.body=some b):Qc prog 40 (Zda T) :=
 Hn hM (fun a c h=>by
  obtain ⟨S,m1,m2,hs⟩:=hT a c h
  exact ⟨S,S,m1,m2,hs,fun F w v hz ha=>Dy ha (by rw [Zu]; have:=hz.few; omega)⟩) hf hname hb
theorem Ck {T:Nat->Option Bool} (hT:∀ a c,T a=some c->c=true/\∃ S,M a = .set S)
  {fn:Func} {b:Code} (hf:prog.funcs[172]? = some fn) (hname:(fn.name== "runtime.NumGoroutine")=false) (hb:fn.body=some b):Qc prog 172 (T4 T) :=
 WS hM (fun a c h=>by
  obtain ⟨rfl,S,m1⟩:=hT a c h
  exact ⟨S,m1,fun F w v hz ha=>J7 ha hz.zr⟩) hf hname hb
theorem Cm {T:Nat->Option Bool} (hT:∀ a c,T a=some c->c=true/\∃ S,M a = .set S/\∀ p∈S,0<=p.2)
  {fn:Func} {b:Code} (hf:prog.funcs[161]? = some fn) (hname:(fn.name== "runtime.NumGoroutine")=false) (hb:fn.body=some b):Qc prog 161 (T4 T) :=
 WS hM (fun a c h=>by
  obtain ⟨rfl,S,m1,h1⟩:=hT a c h
  exact ⟨S,m1,fun F w v hz ha=>Ty ha hz.zr h1⟩) hf hname hb
theorem Cn {T:Nat->Option Bool} (hT:∀ a c,T a=some c->c=false/\∃ S,M a = .set S/\ZU (Zi S)<513)
  {fn:Func} {b:Code} (hf:prog.funcs[183]? = some fn) (hname:(fn.name== "runtime.NumGoroutine")=false) (hb:fn.body=some b):Qc prog 183 (T4 T) :=
 WS hM (fun a c h=>by
  obtain ⟨rfl,S,m1,h1⟩:=hT a c h
  exact ⟨S,m1,fun F w v hz ha=>by
   have h2:=Dx ha (by rw [Zu]; have:=hz.few; omega);rw [R9 _ _ _ (by omega)] at h2
   exact h2⟩) hf hname hb
theorem Co {T:Nat->Option Bool} (hT:∀ a c,T a=some c->c=false/\∃ S,M a = .set S/\ZU (Zi S)<64)
  {fn:Func} {b:Code} (hf:prog.funcs[167]? = some fn) (hname:(fn.name== "runtime.NumGoroutine")=false) (hb:fn.body=some b):Qc prog 167 (T4 T) :=
 WS hM (fun a c h=>by
  obtain ⟨rfl,S,m1,h1⟩:=hT a c h
  exact ⟨S,m1,fun F w v hz ha=>by
   have h2:=Dw ha (by rw [Zu]; have:=hz.few; omega);rw [R9 _ _ _ (by omega)] at h2
   exact h2⟩) hf hname hb
end
end Ev
end
section
open Go.RowKit
def Ly:List (List UInt8)->List (List UInt8)
 | []=>[]
 | x::l=>if x∈l then Ly l else x::Ly l
theorem XO {k:List UInt8}:∀ {l:List (List UInt8)},k∈Ly l↔k∈l
 | []=>Iff.rfl
 | x::l=>by
  rw [Ly];split
  ·rename_i h;rw [XO,List.mem_cons];exact ⟨.inr,fun h2=>h2.elim (fun e=>e▸h) id⟩
  ·rw [List.mem_cons,List.mem_cons,XO]
theorem Jo:∀ l:List (List UInt8),(Ly l).Nodup
 | []=>List.nodup_nil
 | x::l=>by
  rw [Ly];split
  ·exact Jo l
  ·rename_i h;exact List.nodup_cons.2 ⟨fun h2=>h (XO.1 h2),Jo l⟩
theorem Cp:∀ l:List (List UInt8),(Ly l).length<=l.length
 | []=>Nat.le_refl _
 | x::l=>by
  rw [Ly];have:=Cp l;split
  ·exact Nat.le_succ_of_le this
  ·simpa using this
def Jf (ks:List Nat) (T:ZS):List (List UInt8):=Ly (T.map fun p=>nmR ks p.1)
theorem Sa {ks:List Nat} {T:ZS} {k:List UInt8}:k∈Jf ks T↔∃ p∈T,nmR ks p.1=k:=by
 unfold Jf;rw [XO,List.mem_map]
theorem Wp {ks:List Nat} {T:ZS} {k:List UInt8}:ZV ks T k=[]↔k∉Jf ks T:=by
 rw [Sa];constructor
 ·rintro h ⟨p,hp,e⟩;have:p∈ZV ks T k:=ZY.2 ⟨hp,e⟩;rw [h] at this;cases this
 ·intro h;refine List.eq_nil_iff_forall_not_mem.2 fun p hp => ?_;obtain ⟨h1,h2⟩:=ZY.1 hp;exact h ⟨p,h1,h2⟩
def it1 (ks:List Nat) (fs:List (ByteArray×Nat)) (T:ZS) (k:List UInt8):List Itm:=if ZV ks T k=[] then [] else [⟨Qp ks fs T k,1,0⟩]
def Ve (ks:List Nat) (fs:List (ByteArray×Nat)) (T:ZS):ZS:=(Jf ks T).foldl (fun S k=>Ql (Qp ks fs T k) 1 S) []
theorem Nc {L N:List (List UInt8)} (hL:L.Nodup) (hN:N.Nodup) (h:∀ k∈N,k∈L):L.Perm (N++L.filter fun k=>decide (k∉N)):=by
 refine (List.perm_ext_iff_of_nodup hL ?_).2 fun k => ?_
 ·rw [List.nodup_append];refine ⟨hN,hL.filter _,fun a ha b hb e => ?_⟩;subst e;have:=(List.mem_filter.1 hb).2;simp at this;exact this ha
 ·rw [List.mem_append,List.mem_filter];by_cases hk:k∈N
  ·simp [hk,h k hk]
  ·simp [hk]
theorem Nd (f:List UInt8->List Itm) (r:List Vl):∀ L:List (List UInt8),(∀ k∈L,Qs (f k) r=0)->Qs (L.flatMap f) r=0
 | [],_=>rfl
 | k::L,h=>by
  rw [List.flatMap_cons,Z9,h k List.mem_cons_self,Nd f r L fun x hx=>h x (List.mem_cons_of_mem _ hx)];rfl
theorem YO (f g d:List UInt8->List Itm) (r:List Vl):∀ L:List (List UInt8),(∀ k∈L,Qs (f k) r=Qs (g k) r+Qs (d k) r)->Qs (L.flatMap f) r=Qs (L.flatMap g) r+Qs (L.flatMap d) r
 | [],_=>rfl
 | k::L,h=>by
  rw [List.flatMap_cons,List.flatMap_cons,List.flatMap_cons,Z9,Z9,Z9,h k List.mem_cons_self,YO f g d r L fun x hx=>h x (List.mem_cons_of_mem _ hx)];omega
theorem Yk {f:List UInt8->List Itm} {L N:List (List UInt8)} (hL:L.Nodup) (hN:N.Nodup) (h:∀ k∈N,k∈L) (r:List Vl) (h0:∀ k∈L,k∉N->Qs (f k) r=0):Qs (L.flatMap f) r=Qs (N.flatMap f) r:=by
 have h1:=Nd f r (L.filter fun k=>decide (k∉N)) fun k hk=>by
  obtain ⟨h1,h2⟩:=List.mem_filter.1 hk;exact h0 k h1 (by simpa using h2)
 rw [Sb (List.Perm.flatMap_right f (Nc hL hN h)) r,List.flatMap_append,Z9,h1];omega
theorem Nf (t:List UInt8->List Vl) (r:List Vl):∀ (L:List (List UInt8)) (S:Zs),nf (L.foldl (fun S k=>Ql (t k) 1 S) S) r=nf S r+Qs (L.flatMap fun k=>[⟨t k,1,0⟩]) r
 | [],S=>by simp [Qs]
 | k::L,S=>by
  rw [List.foldl_cons,Nf t r L,X5,List.flatMap_cons,Z9];have:Qs [(⟨t k,1,0⟩:Itm)] r=if t k=r then 1 else 0:=by simp [Qs,Itm.net]
  rw [this];omega
theorem YP (t:List UInt8->List Vl):∀ (L:List (List UInt8)) {S:Zs} {n:Nat},(∀ k∈L,Zj (t k)=true)->Bd n S->Bd (n+L.length) (L.foldl (fun S k=>Ql (t k) 1 S) S)
 | [],S,n,_,h=>h
 | k::L,S,n,hr,h=>by
  rw [List.foldl_cons];have:=YP t L (n:=n+1) (fun x hx=>hr x (List.mem_cons_of_mem _ hx)) (h.Ql (hr k List.mem_cons_self) (.inl rfl));rw [List.length_cons,show n+(L.length+1)=n+1+L.length by omega];exact this
theorem Fj (ks:List Nat) (fs:List (ByteArray×Nat)) (T:ZS) (r:List Vl):nf (Ve ks fs T) r=Qs ((Jf ks T).flatMap (it1 ks fs T)) r:=by
 unfold Ve;rw [Nf]
 have:((Jf ks T).flatMap fun k=>[(⟨Qp ks fs T k,1,0⟩:Itm)])=(Jf ks T).flatMap (it1 ks fs T):=by
  have key:∀ L:List (List UInt8),(∀ k∈L,k∈Jf ks T)->(L.flatMap fun k=>[(⟨Qp ks fs T k,1,0⟩:Itm)])=L.flatMap (it1 ks fs T):=by
   intro L
   induction L with
   | nil=>intro _; rfl
   | cons k L ih =>
    intro h;have h1:it1 ks fs T k=[⟨Qp ks fs T k,1,0⟩]:=if_neg fun e=>(Wp.1 e) (h k List.mem_cons_self)
    rw [List.flatMap_cons,List.flatMap_cons,ih fun x hx=>h x (List.mem_cons_of_mem _ hx),h1]
  exact key _ fun _ h=>h
 rw [this];show 0+_=_;omega
def Va (A:Zs):Zs->Zs
 | []=>A
 | p::B=>Ql p.1 p.2 (Va A B)
theorem Ng (A:Zs) (r:List Vl):∀ B:Zs,nf (Va A B) r=nf A r+nf B r
 | []=>by show _=_+(0:Int); rw [Va]; omega
 | p::B=>by rw [Va,X5,Ng A r B,nf]; omega
theorem Cq {A:Zs} (hA:ZP A):∀ {B:Zs},ZP B->ZP (Va A B)
 | [],_=>hA
 | p::B,h=>P6 (h.row p List.mem_cons_self) (h.net p List.mem_cons_self) (Cq hA h.tail)
theorem Ho (A:Zs):∀ B:Zs,(Va A B).length<=A.length+B.length
 | []=>Nat.le_refl _
 | p::B=>by
  have h1:=Nb p.1 p.2 (Va A B);have h2:=Ho A B;rw [Va,List.length_cons];omega
theorem Nh (A:Zs):∀ B:Zs,ZU (Zi (Va A B))<=ZU (Zi A)+ZU (Zi B)
 | []=>Nat.le_refl _
 | p::B=>by
  have h1:=R7 p.1 p.2 (Va A B);have h2:=Nh A B;rw [Va,JX];omega
def Lz (ks:List Nat) (fs:List (ByteArray×Nat)) (T T':ZS):Zs:=Va (Xh (Ve ks fs T)) (Ve ks fs T')
section
variable {ks:List Nat} {fs:List (ByteArray×Nat)} {T:ZS} (h:FIn ks fs T) (hr:∀ k,ZV ks T k≠[]->Zj (Qp ks fs T k)=true) {n:Nat} (hn:(Jf ks T).length<=n)
include hr hn
theorem ZfE:Bd n (Ve ks fs T):=by
 have h1:=YP (Qp ks fs T) (Jf ks T) (S:=[]) (n:=0) (fun k hk=>hr k fun e=>Wp.1 e hk) Bd.nil;rw [Nat.zero_add] at h1;exact h1.mono hn
end
theorem ZfF {ks:List Nat} {fs:List (ByteArray×Nat)} {T T':ZS} {Dn:List (List UInt8)} (hD:Dn.Nodup) (hs:∀ k,k∉Dn->ZV ks T' k=ZV ks T k) (r:List Vl) :
  nf (Lz ks fs T T') r=Qs (Dn.flatMap (Q5 (ZV ks T) (ZV ks T') (Qp ks fs T) (Qp ks fs T'))) r:=by
 unfold Lz;rw [Ng,T3,Fj,Fj];have hL:=Jo (Jf ks T++(Jf ks T'++Dn))
 have e1:=Yk (f:=it1 ks fs T) (N:=Jf ks T) hL (Jo _) (fun k hk=>XO.2 (List.mem_append_left _ hk)) r fun k _ hk=>by
  unfold it1; rw [if_pos (Wp.2 hk)]; rfl
 have e2:=Yk (f:=it1 ks fs T') (N:=Jf ks T') hL (Jo _) (fun k hk=>XO.2 (List.mem_append_right _ (List.mem_append_left _ hk))) r fun k _ hk=>by
  unfold it1; rw [if_pos (Wp.2 hk)]; rfl
 have hit:∀ k,Qs (it1 ks fs T' k) r=Qs (it1 ks fs T k) r+Qs (Q5 (ZV ks T) (ZV ks T') (Qp ks fs T) (Qp ks fs T') k) r:=fun k=>by
  unfold it1 Q5;rw [Z9];by_cases h1:ZV ks T k=[] <;> by_cases h2:ZV ks T' k=[] <;> simp only [h1,h2,if_true,if_false,Qs,Itm.net,reduceCtorEq] <;> (repeat' split) <;> omega
 have e3:=Yk (f:=Q5 (ZV ks T) (ZV ks T') (Qp ks fs T) (Qp ks fs T')) hL hD (fun k hk=>XO.2 (List.mem_append_right _ (List.mem_append_right _ hk))) r fun k _ hk=>by
  have h1:=hit k
  have h2:it1 ks fs T' k=it1 ks fs T k:=by
   have h3:Qp ks fs T' k=Qp ks fs T k:=by unfold Qp; rw [hs k hk]
   unfold it1;rw [hs k hk,h3]
  rw [h2] at h1;omega
 have e4:=YO (it1 ks fs T') (it1 ks fs T) (Q5 (ZV ks T) (ZV ks T') (Qp ks fs T) (Qp ks fs T')) r (Ly (Jf ks T++(Jf ks T'++Dn))) fun k _=>hit k;rw [e1,e2,e3] at e4;omega
end
section
open Go.RowKit
theorem Cr {a b:List Vl} (ha:Zj a=true) (hb:Zj b=true):KN a b=decide (a=b):=by
 unfold KN;rw [ha,hb,Bool.true_and,Bool.true_and];have:=QW (ZZ ha) (ZZ hb);by_cases h:a=b
 ·rw [decide_eq_true h,decide_eq_true (this.2 h)]
 ·simp [h];exact fun h2=>h (this.1 h2)
theorem Ct {S:List (List Vl×Int)} (h:ZP S) {r:List Vl} (hr:Zj r=true):Jj S r=nf S r:=by
 induction S with
 | nil=>rfl
 | cons p S ih =>
  rw [Jj,Cr (h.row p (by simp)) hr];by_cases e:p.1=r
  ·subst e;simp only [decide_true,if_true];exact h.Yl.symm
  ·simp only [e,decide_false,Bool.false_eq_true,if_false];rw [ih h.tail,nf,if_neg e,Int.zero_add]
theorem Sm.net {S:List (List Vl×Int)} (h:Sm S) (r:List Vl) : -1000000<=Jj S r/\Jj S r<=1000000:=by
 have hs:=h.sum
 have key:∀ (l:List (List Vl×Int)) (B:Nat),ZU (Zi l)<=B -> -(B:Int)<=Jj l r/\Jj l r<=(B:Int):=by
  intro l
  induction l with
  | nil=>intro B _; simp [Jj]
  | cons p l ih =>
   intro B hB;have hB:(ZB p).a+(ZB p).b+ZU (Zi l)<=B:=hB;have h1:(ZB p).a=p.2.toNat/\(ZB p).b=(-p.2).toNat:=⟨rfl,rfl⟩
   rw [h1.1,h1.2] at hB;rw [Jj];split
   ·omega
   ·exact ih B (by omega)
 have:=key S 1000000 hs;omega
structure Uq (R:List Vl->Prop) (ks:List Nat) (fs:List (ByteArray×Nat)) (KS:List (List UInt8)):Prop where
 su:∀ r,R r->TX ks fs r
 rn:∀ r,R r->ZfD r
 big:∀ r,R r->∀ v∈r,-1000<=v.n/\v.n<=1000
 nm:∀ r,R r->nmR ks r∈KS
 few:KS.length<=10
 n0:0<ks.length+fs.length
 n6:ks.length+fs.length<=6
structure Jp (R:List Vl->Prop) (k:Nat) (T:Zs):Prop where
 t:Bd k T
 pos:∀ p∈T,0<=p.2
 row:∀ p∈T,R p.1
def sd (b:Bool):Int:=if b then 1 else -1
theorem Zdf (b:Bool):sd b=1\/sd b = -1:=by cases b <;> simp [sd]
theorem Zkt (b:Bool):sd b≠0:=by cases b <;> simp [sd]
theorem Pb:∀ S:Zs,Zq (Zi S)<=ZU (Zi S)
 | []=>by simp [Zi,Zq,ZU]
 | p::S=>by
  have ih:=Pb S;have h1:Zq (Zi (p::S))=(ZB p).net+Zq (Zi S):=rfl;have h2:ZU (Zi (p::S))=(ZB p).a+(ZB p).b+ZU (Zi S):=rfl;rw [h1,h2,Wm];simp only [ZB];omega
section
variable {R:List Vl->Prop} {ks:List Nat} {fs:List (ByteArray×Nat)} {KS:List (List UInt8)} (ok:Uq R ks fs KS) {k:Nat} {T:Zs} (h:Jp R k T)
include ok h
theorem Jp.fin (hk:k<=40):FIn ks fs T where
 sm:=h.t.sm (by omega)
 pos:=fun p hp=>by
  have h1:=h.pos p hp;have h2:=h.t.set.net p hp;omega
 rn:=fun p hp=>ok.rn p.1 (h.row p hp)
 su:=fun p hp=>ok.su p.1 (h.row p hp)
 few:=by
  have h1:=Pb T;have h2:=h.t.sum;omega
 big:=fun p hp=>ok.big p.1 (h.row p hp)
theorem Jp.step {b:Bool} {x:List Vl} (hx:R x) (hb:b=false->1<=nf T x):Jp R (k+1) (Ql x (sd b) T) where
 t:=h.t.Ql (ok.su x hx).2.2 (Zdf b)
 pos:=Zdd h.t.set h.pos (ok.su x hx).2.2 (Zkt b) (by
  cases b
  ·have h1:1<=nf T x:=hb rfl;simp only [sd]; simp; omega
  ·have:=Um h.pos x
   simp only [sd]; simp; omega)
 row:=fun p hp=>(Na hp).elim (fun e=>e▸hx) fun ⟨q,h1,h2⟩=>h2▸h.row q h1
theorem Jp.names:(Jf ks T).length<=10:=by
 have h1:=Nc (N:=Jf ks T) (Jo KS) (Jo _) fun k hk=>by
  obtain ⟨p,hp,e⟩:=Sa.1 hk;exact XO.2 (e▸ok.nm p.1 (h.row p hp))
 have h2:=h1.length_eq;rw [List.length_append] at h2;have h3:=Cp KS;have h4:=ok.few;omega
theorem Jp.Zif (hk:k<=40) (key:List UInt8) (hg:ZV ks T key≠[]):Zj (Qp ks fs T key)=true:=by
 have hi:=h.fin ok hk;have hc:T0 ks fs T [] T []:=⟨hi,hi,ok.n0,ok.n6,Bd.nil.sm (by omega),fun p hp=>(by cases hp),fun p hp=>(by cases hp),List.nodup_nil,fun r=>(by simp [nf]),⟨KS,fun p hp=>ok.nm p.1 (h.row p hp),(by have:=ok.few; simp only [List.length_nil]; omega)⟩,Bd.nil.sm (by omega),fun r=>rfl⟩
 exact VD hc hi hg
theorem Jp.out (hk:k<=40):Bd 10 (Ve ks fs T) :=
 ZfE (h.Zif ok hk) (h.names ok)
end
section
variable {R:List Vl->Prop} {ks:List Nat} {fs:List (ByteArray×Nat)} {KS:List (List UInt8)} (ok:Uq R ks fs KS) {k:Nat} {T:Zs} (h:Jp R k T) {b:Bool} {x:List Vl} (hx:R x) (hb:b=false->1<=nf T x) (hk:k+1<=40)
include ok h hx hb hk
theorem Jp.Zku:Bd 20 (Lz ks fs T (Ql x (sd b) T)):=by
 have h1:=(h.out ok (by omega))
 have h2:=((h.step ok hx hb).out ok hk)
 have l1:(Xh (Ve ks fs T)).length=(Ve ks fs T).length:=by simp [Xh]
 refine ⟨Cq (h1.sm (by omega)).flip.set h2.set,?_,?_⟩
 ·have:=Ho (Xh (Ve ks fs T)) (Ve ks fs (Ql x (sd b) T));have a1:=h1.len;have a2:=h2.len;unfold Lz;omega
 ·have:=Nh (Xh (Ve ks fs T)) (Ve ks fs (Ql x (sd b) T));have a1:=h1.sum;have a2:=h2.sum;rw [Hm] at this;unfold Lz;omega
theorem Jp.chg:T0 ks fs T [(x,sd b)] (Ql x (sd b) T) (Lz ks fs T (Ql x (sd b) T)) where
 i:=h.fin ok (by omega)
 i':=(h.step ok hx hb).fin ok hk
 n0:=ok.n0
 n6:=ok.n6
 d:=(Hl (ok.su x hx).2.2 (Zdf b)).sm (by omega)
 dn:=fun p hp=>by rw [List.mem_singleton.1 hp]; exact ok.rn x hx
 ds:=fun p hp=>by rw [List.mem_singleton.1 hp]; exact ok.su x hx
 nd:=by simp
 ad:=fun r=>by rw [X5,R8]
 KS:=⟨KS,fun p hp=>ok.nm p.1 (h.row p hp),by have:=ok.few; simp; omega⟩
 o:=(h.Zku ok hx hb hk).sm (by omega)
 on:=fun r=>ZfF (by simp) (fun key hkey=>by
  refine ZP.uniq ((h.step ok hx hb).fin ok hk |>.VC key).set ((h.fin ok (by omega)).VC key).set fun r => ?_;rw [Yj,Yj];by_cases hr:nmR ks r=key
  ·rw [if_pos hr,if_pos hr,X5,if_neg]
   ·omega
   ·intro e;refine hkey ?_;simp [<- hr,e]
  ·rw [if_neg hr,if_neg hr]) r
end
theorem Zdg (ks:List Nat) (fs:List (ByteArray×Nat)) (T T':Zs) (r:List Vl):nf (Ve ks fs T') r=nf (Ve ks fs T) r+nf (Lz ks fs T T') r:=by
 unfold Lz;rw [Ng,T3];omega
theorem Jp.mono {R:List Vl->Prop} {k m:Nat} {T:Zs} (h:Jp R k T) (hk:k<=m):Jp R m T:=⟨h.t.mono hk,h.pos,h.row⟩
theorem Jp.start (R:List Vl->Prop):Jp R 0 []:=⟨Bd.nil,fun p h=>(by cases h),fun p h=>(by cases h)⟩
end
section
open Go Go.RowKit
def ZfG (r:List Vl):Prop:=∃ (n m:Int) (s:List UInt8),r=[⟨1,n,[]⟩,⟨1,m,[]⟩,⟨2,0,s⟩]/\(-3<=n/\n<=3)/\(-3<=m/\m<=3)/\s.length<=2
def ZfH (r:List Vl):Prop:=∃ (n m:Int),r=[⟨1,n,[]⟩,⟨1,m,[]⟩]/\(-3<=n/\n<=3)/\(-3<=m/\m<=3)
def Sc (u:Bool) (r:List Vl):Prop:=if u then ZfH r else ZfG r
theorem ZfG.right {r:List Vl} (h:ZfG r):Zj r=true/\r.map (·.k)=[1,1,2]:=by
 obtain ⟨n,m,s,rfl,h1,h2,h3⟩:=h;refine ⟨?_,rfl⟩;simp [Zj,Vl.right]; omega
theorem ZfH.right {r:List Vl} (h:ZfH r):Zj r=true/\r.map (·.k)=[1,1]:=by
 obtain ⟨n,m,rfl,h1,h2⟩:=h;refine ⟨?_,rfl⟩;simp [Zj,Vl.right]
theorem Sc.right {u:Bool} {r:List Vl} (h:Sc u r):Zj r=true/\r.map (·.k)=if u then [1,1] else [1,1,2]:=by
 cases u
 ·exact ZfG.right h
 ·exact ZfH.right h
theorem Sc.small {u:Bool} {r:List Vl} (h:Sc u r):∀ v∈r,-3<=v.n/\v.n<=3:=by
 cases u
 ·obtain ⟨n,m,s,rfl,h1,h2,h3⟩:=h;simp; omega
 ·obtain ⟨n,m,rfl,h1,h2⟩:=h;simp; omega
theorem Sc.rn {u:Bool} {r:List Vl} (h:Sc u r):ZfD r:=fun v hv=>by
 have h1:=h.small v hv;exact ⟨QX h.right.1 v hv,by omega,by omega⟩
theorem Sc.big {u:Bool} {r:List Vl} (h:Sc u r):∀ v∈r,-1000<=v.n/\v.n<=1000:=fun v hv=>by
 have h1:=h.small v hv;omega
end
section
open Go
namespace Ev
noncomputable section
def isK (v:V) (k:Int):Bool:=match v with
 | .ok (.int .i64 n)=>ieq n k
 | _=>false
def P7 (cs:List Zb):Nat->List Int->Bool
 | _,[]=>true
 | off,k::ks=>sel (isK (Kt (off+1) cs) k) (P7 cs (off+2) ks) false
def Zdh (off:Nat) (ks:List Int) (c:Cs):Bool:=match c with
 | .mk cs _ _=>P7 cs off ks
 | .bad=>false
def T5 (s:St) (ks:List Int) (v:Zb):Bool:=match v with
 | .slice id off n _=>sel (Nat.beq n ks.length) (Zdh off ks (s.ZK id)) false
 | _=>false
def ZlU (b:Bool) (s:St):R:=sel b (.ok (.bool true) s) .bad
def uK (K:Nat->Option (List Int)) (args:List Zb) (s:St):R:=match args with
 | [c,.gho _ t]=>(match K t with
  | some ks=>ZlU (T5 s ks c) s
  | none => .bad)
 | _ => .bad
def Zhj (K:Nat->Option (List Int)):Orc:=⟨uK K⟩
def cellAt (s:St) (id off:Nat):V:=match s.ZK id with
 | .mk cs _ _=>Kt off cs
 | .bad => .bad
def oV (s:St) (ks:List Int) (v:V):Bool:=match v with
 | .ok c=>T5 s ks c
 | .bad=>false
def Zhk (b:Bool) (s:St):R:=sel b (.ok (.bool false) s) .bad
def zL (s:St) (ks:List Int) (n:V) (d:V):Bool:=match n,d with
 | .ok (.int .i64 (.ofNat n)),.ok (.slice id off m _)=>sel (Nat.blt n m) (sel (Nat.ble m 1000000) (oV s ks (cellAt s id (off+n*2+1))) false) false
 | _,_=>false
def uL (s:St) (ks:List Int) (nb:Nat) (g:V):Bool:=match g with
 | .ok (.ptr gb 0)=>zL s ks (cellAt s nb 0) (cellAt s gb 1)
 | _=>false
def uM (f1 f2:Nat) (K:Nat->Option (List Int)) (args:List Zb) (s:St):R:=match args with
 | [.gho _ t,.func f [] [.ptr tb 0]]=>(match K t with
  | some ks=>sel (Nat.beq f f1) (Zhk (oV s ks (cellAt s tb 1)) s) .bad
  | none => .bad)
 | [.gho _ t,.func f [] [.ptr fb 0,.ptr nb 0]]=>(match K t with
  | some ks=>sel (Nat.beq f f2) (Zhk (uL s ks nb (cellAt s fb 0)) s) .bad
  | none => .bad)
 | _ => .bad
def Zkw (f1 f2:Nat) (K:Nat->Option (List Int)):Orc:=⟨uM f1 f2 K⟩
end
section
variable [Sig] {r:Rho} {s:St} {w:World}
theorem T6 (hr:Rel r s w) {id i:Nat} {x:RB} (hx:r id=some x) {cs:List Zb} {e:Nat} {o:Bool} (hc:s.ZK id = .mk cs e o) {v:Zb} (hv:Kt i cs = .ok v):∃ u,w.cell? ⟨x.blk,i,none⟩=some u/\VR r v u:=by
 obtain ⟨ob,h1,h2⟩:=hr.block id _ x (ZO hc) hx;obtain ⟨_,vs,rest,t,fr,rfl,h3,_,_,_⟩:=h2;obtain ⟨u,h4,h5⟩:=h3.get (T7 i hv);refine ⟨u,?_,h5⟩;rw [cell_of_row w x.blk i _ t fr h1];have:=(List.getElem?_eq_some_iff.1 h4).1;simp only [List.getElem?_toArray];rw [List.getElem?_append_left this];exact h4
theorem QY (hr:Rel r s w) {id i:Nat} {v:Zb} (h:cellAt s id i = .ok v) {x:RB} (hx:r id=some x):∃ u,w.cell? ⟨x.blk,i,none⟩=some u/\VR r v u:=by
 unfold cellAt at h;split at h
 ·rename_i cs e o hc;exact T6 hr hx hc h
 ·cases h
theorem Ni:∀ {cs:List Zb} {ks:List Int} {off:Nat},P7 cs off ks=true->∀ j k,ks[j]? = some k->Kt (off+j*2+1) cs = .ok (.int .i64 k)
 | cs,[],_,_,j,k,hk=>by simp at hk
 | cs,k0::ks,off,h,j,k,hk=>by
  rcases Ze (show sel (isK (Kt (off+1) cs) k0) (P7 cs (off+2) ks) false=true from h) with ⟨h1,h2⟩ | ⟨_,h2⟩
  ·cases j with
   | zero =>
    simp at hk;subst hk;unfold isK at h1;split at h1
    ·rename_i n hn;rw [QP] at h1;rw [Nat.zero_mul,Nat.add_zero,hn,eq_of_beq h1]
    ·cases h1
   | succ j =>
    have:=Ni h2 j k (by simpa using hk)
    rwa [show off+2+j*2+1=off+(j+1)*2+1 by omega] at this
  ·cases h2
theorem Td (hr:Rel r s w) {ks:List Int} {v:Zb} {u:Value} (hv:VR r v u) (h:T5 s ks v=true):Te w u ks:=by
 unfold T5 at h;split at h
 ·rename_i id off n c;rcases Ze h with ⟨h1,h2⟩ | ⟨_,h2⟩
  ·have h1:=Nat.eq_of_beq_eq_true h1;subst h1;unfold Zdh at h2;split at h2
   ·rename_i cs e o hc;cases hv with
    | slice hx hn hcc hu =>
     rename_i x cap;refine ⟨_,_,rfl,fun _=>⟨x.blk,off,rfl,fun j k hk => ?_⟩⟩;obtain ⟨u,h3,h4⟩:=T6 hr hx hc (Ni h2 j k hk);cases h4;exact h3
   ·cases h2
  ·cases h2
 ·cases h
theorem EP (hr:Rel r s w) {ks:List Int} {v:V} (h:oV s ks v=true):∃ c,v = .ok c/\T5 s ks c=true:=by
 unfold oV at h;split at h
 ·exact ⟨_,rfl,h⟩
 ·cases h
variable {M:Nat->Mn} (hM:Sig.Q4=QK M)
theorem WT {r:List Vl} (h:Zj r=true):(∀ x∈r,x.right=true)/\r.length<=1000000:=by
 unfold Zj at h;simp only [Bool.and_eq_true,decide_eq_true_eq,Bool.not_eq_true',List.any_eq_false] at h;exact ⟨fun x hx=>by simpa using h.2 x hx,by omega⟩
include hM
theorem Ur {K:Nat->Option (List Int)} (hK:∀ t ks,K t=some ks->∃ l,M t = .row l/\l.map (·.k)=ks)
  {fn:Func} {b:Code} (hf:prog.funcs[164]? = some fn) (hname:(fn.name== "runtime.NumGoroutine")=false) (hb:fn.body=some b):Qc prog 164 (Zhj K):=by
 intro args s v s' h r w us hr hv;have h:uK K args s = .ok v s':=h;unfold uK at h;split at h
 ·rename_i c i t _;cases hv with
  | cons hx ht=>cases ht with
   | cons hy ht =>
    cases ht;split at h
    ·rename_i ks hk;obtain ⟨l,m1,rfl⟩:=hK _ _ hk;rcases Ze h with ⟨h1,h⟩ | ⟨_,h⟩
     ·cases h;obtain ⟨z1,a1⟩:=Fc hM hr hy m1;obtain ⟨z2,z3⟩:=WT z1;refine Xf hf hname hb ((Tg (Td hr hx h1) a1 z2 z3).mono ?_);rintro _ w' ⟨rfl,h5⟩;exact ⟨_,rfl,r,Ext.same hr h5,.bool _⟩
     ·cases h
    ·cases h
 ·cases h
theorem Zbc {K:Nat->Option (List Int)} (hK:∀ t ks,K t=some ks->∃ S,M t = .set S/\∀ p∈S,p.1.map (·.k)=ks)
  {fn:Func} {b:Code} (hf:prog.funcs[162]? = some fn) (hname:(fn.name== "runtime.NumGoroutine")=false) (hb:fn.body=some b)
  (e1:∀ args W,(callFunc 163 args).run prog W = .ok (.enter 163 args) W)
  (e2:∀ args W,(callFunc 175 args).run prog W = .ok (.enter 175 args) W) :
  Qc prog 162 (Zkw 163 175 K):=by
 intro args s v s' h r w us hr hv;have h:uM 163 175 K args s = .ok v s':=h;unfold uM at h;split at h
 ·rename_i i t f tb _;cases hv with
  | cons hx ht=>cases ht with
   | cons hy ht =>
    cases ht;split at h
    ·rename_i ks hk;obtain ⟨S,m1,hks⟩:=hK _ _ hk;rcases Ze h with ⟨ig,h⟩ | ⟨_,h⟩
     ·have ig:=Nat.eq_of_beq_eq_true ig;subst ig;rcases Ze (show sel (oV s ks (cellAt s tb 1)) (.ok (.bool false) s) .bad=R.ok v s' from h) with ⟨h1,h⟩ | ⟨_,h⟩
      ·cases h;obtain ⟨c,h2,h3⟩:=EP hr h1;obtain ⟨z1,a1⟩:=XG hM hr hx m1;cases hy with
       | func _ ha hb2 =>
        cases ha;cases hb2 with
        | cons hp ht =>
         cases ht;cases hp with
         | ptr hp =>
          rename_i x;obtain ⟨u,h4,h5⟩:=QY hr h2 hp;have ik:=Td hr h5 h3;refine Xf hf hname hb ((KZ e1 a1 fun rv y W hy hrow _ _ hW => ?_).mono ?_)
          ·obtain ⟨p,hp',rfl⟩:=List.mem_map.1 hy;obtain ⟨z2,z3⟩:=WT (z1.set.row p hp');refine Fl (hW.cell h4 fun h=>h) ?_ (hrow.Zf hW) z2 z3;have:=ik.Zf hW;rw [<- hks p hp'] at this;exact this
          ·rintro _ w' ⟨rfl,h5⟩;exact ⟨_,rfl,r,Ext.same hr h5,.bool _⟩
      ·cases h
     ·cases h
    ·cases h
 ·rename_i i t f fb nb _;cases hv with
  | cons hx ht=>cases ht with
   | cons hy ht =>
    cases ht;split at h
    ·rename_i ks hk;obtain ⟨S,m1,hks⟩:=hK _ _ hk;rcases Ze h with ⟨ig,h⟩ | ⟨_,h⟩
     ·have ig:=Nat.eq_of_beq_eq_true ig;subst ig;rcases Ze (show sel (uL s ks nb (cellAt s fb 0)) (.ok (.bool false) s) .bad=R.ok v s' from h) with ⟨h1,h⟩ | ⟨_,h⟩
      ·cases h;obtain ⟨z1,a1⟩:=XG hM hr hx m1;unfold uL at h1;split at h1
       ·rename_i gb hgb;unfold zL at h1;split at h1
        ·rename_i N id off m c hn hd;rcases Ze h1 with ⟨g1,h1⟩ | ⟨_,h1⟩
         ·rcases Ze h1 with ⟨g2,h1⟩ | ⟨_,h1⟩
          ·obtain ⟨c,h2,h3⟩:=EP hr h1;cases hy with
           | func _ ha hb2 =>
            cases ha;cases hb2 with
            | cons hp ht=>cases ht with
             | cons hp2 ht =>
              cases ht;cases hp with
              | ptr hp =>
               cases hp2 with
               | ptr hp2 =>
                rename_i x x2;obtain ⟨u1,k1,k2⟩:=QY hr hgb hp;cases k2 with
                | ptr hg =>
                 obtain ⟨u2,k3,k4⟩:=QY hr hd hg;obtain ⟨u3,k5,k6⟩:=QY hr hn hp2;cases k6;cases k4 with
                 | slice hdx hdn hdc hdu =>
                  obtain ⟨u4,k7,k8⟩:=QY hr h2 hdx;have ik:=Td hr k8 h3;refine Xf hf hname hb ((KZ e2 a1 fun rv y W hy hrow _ _ hW => ?_).mono ?_)
                  ·obtain ⟨p,hp',rfl⟩:=List.mem_map.1 hy;obtain ⟨z2,z3⟩:=WT (z1.set.row p hp');refine LB (hW.cell k1 fun h=>h) (hW.cell k3 fun h=>h) (hW.cell k5 fun h=>h) (QI g1) (Qj g2) (hW.cell k7 fun h=>h) ?_ (hrow.Zf hW) z2 z3;have:=ik.Zf hW;rw [<- hks p hp'] at this;exact this
                  ·rintro _ w' ⟨rfl,h5⟩;exact ⟨_,rfl,r,Ext.same hr h5,.bool _⟩
          ·cases h1
         ·cases h1
        ·cases h1
       ·cases h1
      ·cases h
     ·cases h
    ·cases h
 ·cases h
end
end Ev
end
section
open Go
theorem qL:fl 0=0:=by kernel_rfl
theorem zM:fl 1=4607182418800017408:=by kernel_rfl
namespace Ev
noncomputable section
def Zdk (v:V):Option Bool:=match v with
 | .ok (.Z2 .f64 a b)=>sel (Nat.beq a 4607182418800017408) (sel (Nat.beq b 0) (some true) none) (sel (Nat.beq a 0) (sel (Nat.beq b 4607182418800017408) (some false) none) none)
 | _=>none
def Us (v:V):Option Nat:=match v with
 | .ok (.gho _ t)=>some t
 | _=>none
def Zky (T:Nat->Nat->Bool->Option Nat) (s:St) (a:Nat) (t:Option Nat) (b:Option Bool):R:=match t,b with
 | some t,some b=>Zib s (T a t b)
 | _,_ => .bad
def Zdl (s:St) (id:Nat) (c:Option Nat):Bool:=match c,s.ZK id with
 | some c,_=>Nat.ble c 1000
 | none,.mk cs e o=>sel o false (sel (Nat.beq e 0) false (Nat.ble cs.length 1000))
 | _,_=>false
def uN (T:Nat->Nat->Option Nat) (T1:Nat->Nat->Bool->Option Nat) (args:List Zb) (s:St):R:=match args with
 | [.gho _ a,.gho _ b]=>Zib s (T a b)
 | [.gho _ a,.slice id off 1 c]=>sel (Zdl s id c) (Zky T1 s a (Us (cellAt s id off)) (Zdk (cellAt s id (off+1)))) .bad
 | _ => .bad
def Zhl (T:Nat->Nat->Option Nat) (T1:Nat->Nat->Bool->Option Nat):Orc:=⟨uN T T1⟩
end
theorem Zdn {v:V} {b:Bool} (h:Zdk v=some b):v = .ok (.Z2 .f64 (fl (if b then 1 else 0)) (fl (if b then 0 else 1))):=by
 unfold Zdk at h;split at h
 ·rcases Ze h with ⟨h1,h⟩ | ⟨_,h⟩
  ·rcases Ze h with ⟨h2,h⟩ | ⟨_,h⟩
   ·cases h;rw [Nat.eq_of_beq_eq_true h1,Nat.eq_of_beq_eq_true h2];simp only [if_true,qL,zM]
   ·cases h
  ·rcases Ze h with ⟨h1,h⟩ | ⟨_,h⟩
   ·rcases Ze h with ⟨h2,h⟩ | ⟨_,h⟩
    ·cases h;rw [Nat.eq_of_beq_eq_true h1,Nat.eq_of_beq_eq_true h2];simp only [Bool.false_eq_true,if_false,qL,zM]
    ·cases h
   ·cases h
 ·cases h
theorem Zbd {v:V} {t:Nat} (h:Us v=some t):∃ i,v = .ok (.gho i t):=by
 unfold Us at h;split at h
 ·cases h; exact ⟨_,rfl⟩
 ·cases h
section
theorem Zdo [Sig] {r:Rho} {s:St} {w:World} (hr:Rel r s w) {id off n cap:Nat} {c:Option Nat} {x:RB} (hx:r id=some x) (hc:∀ k,c=some k->cap=k) (hu:c=none->off+cap*x.esz=x.size) (h:Zdl s id c=true):cap<=1000:=by
 unfold Zdl at h;split at h
 ·rw [hc _ rfl];exact Qj h
 ·rename_i cs e o hb;obtain ⟨ob,h1,h2⟩:=hr.block id _ x (ZO hb) hx;obtain ⟨rfl,vs,rest,t,fr,rfl,h3,h4,h5,_⟩:=h2;cases o with
  | true=>cases h
  | false =>
   have h:sel (Nat.beq x.esz 0) false (Nat.ble cs.length 1000)=true:=h;rcases Ze h with ⟨_,h⟩ | ⟨g,h⟩
   ·cases h
   ·have h6:=Qj h;have h7:=h5 rfl;subst h7;have h8:=h3.length;rw [List.append_nil] at h4;have h9:=hu rfl;have h10:x.esz≠0:=fun e=>by rw [e] at g; cases g
    have h11:cap*1<=cap*x.esz:=Nat.mul_le_mul_left _ (by omega);omega
 ·cases h
variable [Sig] {M:Nat->Mn} (hM:Sig.Q4=QK M)
include hM
theorem Ut {T:Nat->Nat->Option Nat} {T1:Nat->Nat->Bool->Option Nat} (hT:∀ a b c,T a b=some c->∃ S S' bn,M a = .set S/\M b = .set S'/\M c = .set bn/\Sm bn/\∀ r,nf bn r=nf S r+nf S' r)
  (hT1:∀ a t b c,T1 a t b=some c->∃ S l bn,M a = .set S/\M t = .row l/\M c = .set bn/\Sm bn/\∀ r,nf bn r=nf S r+if l=r then (if b then 1 else -1) else 0)
  {fn:Func} {b:Code} (hf:prog.funcs[112]? = some fn) (hname:(fn.name== "runtime.NumGoroutine")=false) (hb:fn.body=some b):Qc prog 112 (Zhl T T1):=by
 intro args s v s' h r w us hr hv;have h0:uN T T1 args s = .ok v s':=h;unfold uN at h0;split at h0
 ·rename_i _ i a j b';exact OZ hM hT hf hname hb [.gho i a,.gho j b'] s v s' h0 r w us hr hv
 ·rename_i _ i a id off cc;rcases Ze h0 with ⟨g1,h0⟩ | ⟨_,h0⟩
  ·cases hv with
   | cons hx ht=>cases ht with
    | cons hy ht =>
     cases ht;unfold Zky at h0;split at h0
     ·rename_i t sd hts hsd;cases hc:T1 a t sd with
      | none=>rw [hc] at h0; cases h0
      | some c =>
       rw [hc] at h0;cases h0;obtain ⟨S,l,bn,m1,m2,m3,hs,hnf⟩:=hT1 a t sd c hc;obtain ⟨z1,a1⟩:=XG hM hr hx m1;obtain ⟨ti,hti⟩:=Zbd hts;have hsd:=Zdn hsd;cases hy with
       | slice hdx hdn hdc hdu =>
        rename_i x cap;have hcc:=Zdo (n:=1) hr hdx hdc hdu g1;obtain ⟨u1,k1,k2⟩:=QY hr hti hdx;obtain ⟨u2,k3,k4⟩:=QY hr hsd hdx;cases k4;obtain ⟨z2,a2⟩:=Fc hM hr k2 m2;obtain ⟨_,z4⟩:=WT z2
        have a3:Zp (fun b=>JA r b\/b=x.blk) w (.slice (some ⟨x.blk,off,none⟩) 1 cap) [⟨l,if sd then 1 else 0,if sd then 0 else 1⟩]:=by
         refine ⟨_,_,rfl,hdn,by omega,fun _=>⟨x.blk,off,rfl,.inr rfl,World.block_lt_of_cell? w _ k1,fun j y hy => ?_⟩⟩;cases j with
         | succ j=>simp at hy
         | zero =>
          simp at hy;subst hy;exact ⟨⟨u1,by simpa using k1,a2.mono fun b hb _ => .inl hb⟩,by simpa [tc] using k3,by cases sd <;> simp,by cases sd <;> simp,z4⟩
        have hw1:ZU [(⟨l,if sd then 1 else 0,if sd then 0 else 1⟩:Itm)]=1:=by cases sd <;> rfl
        refine Xf hf hname hb ((Tc a1 a3 (by rw [Zu]; have:=z1.few; omega) (by simp) z1.rows (fun y hy=>by rw [List.mem_singleton.1 hy]; exact z2) (by rw [hw1]; have:=z1.sum; omega)).mono ?_);rintro _ w' ⟨u,S3,rfl,hz,h3,_,h4,h5⟩
        have:S3=bn:=ZP.uniq hz hs.set fun r=>by
         rw [h3,Z9,Wl,hnf];cases sd <;> simp [Qs,Itm.net]
        subst this;obtain ⟨q,e1,e2⟩:=P5 hM hr h5 (fun k hk _ => .inr hk) m3 hs h4;exact ⟨_,rfl,q,e1,.tuple (.cons e2 (.cons (.int _ _) .nil))⟩
     ·cases h0
  ·cases h0
 ·cases h0
end
end Ev
end
section
open Go
theorem Zkz {n:Int} (h0:n≠0) (h1 : -1000000<=n) (h2:n<=1000000) (P:Program) (t:TypeId) (W:World) :
  (binOp .eql t (tn n) (.complex .f64 0 0)).run P W = .ok (.bool false) W/\(binOp .neq t (tn n) (.complex .f64 0 0)).run P W = .ok (.bool true) W:=by
 have e:(Value.complex .f64 0 0) = .complex .f64 (fl 0) (fl 0):=by rw [qL]
 have hb:(decide (n.toNat=0) && decide ((-n).toNat=0))=false:=by
  rw [Bool.and_eq_false_iff,decide_eq_false_iff_not,decide_eq_false_iff_not];omega
 rw [e];unfold tn tc;rw [DG (by omega) (by omega) (by decide) (by decide),Kj (by omega) (by omega) (by decide) (by decide),hb];exact ⟨rfl,rfl⟩
theorem ZfJ {M:Nat->Mn} (h:M 0 = .nz):∀ F w v,QK M 0 F w v->(∃ a b,v = .complex .f64 a b)/\∀ (P:Program) (t:TypeId) (W:World),(binOp .eql t v (.complex .f64 0 0)).run P W = .ok (.bool false) W/\(binOp .neq t v (.complex .f64 0 0)).run P W = .ok (.bool true) W:=by
 intro F w v hm;unfold QK at hm;rw [h] at hm;obtain ⟨n,h0,h1,h2,rfl⟩:=hm;exact ⟨⟨_,_,rfl⟩,fun P t W=>Zkz h0 h1 h2 P t W⟩
namespace Ev
noncomputable section
def ZlV (s:St) (o:Option Bool):R:=match o with
 | some true => .ok (.gho s.next 0) s.Vz
 | some false => .ok (.Z2 .f64 0 0) s
 | none => .bad
def ofR (T:Nat->Nat->Option Bool) (args:List Zb) (s:St):R:=match args with
 | [.gho _ a,.gho _ t]=>ZlV s (T a t)
 | _ => .bad
def oOf (T:Nat->Nat->Option Bool):Orc:=⟨ofR T⟩
end
section
variable [Sig] {M:Nat->Mn} (hM:Sig.Q4=QK M)
include hM
theorem Zdp {T:Nat->Nat->Option Bool} (h0:M 0 = .nz) (hT:∀ a t b,T a t=some b->∃ S l,M a = .set S/\M t = .row l/\(b=true↔Jj S l≠0) /\ -1000000<=Jj S l/\Jj S l<=1000000)
  {fn:Func} {b:Code} (hf:prog.funcs[166]? = some fn) (hname:(fn.name== "runtime.NumGoroutine")=false) (hb:fn.body=some b):Qc prog 166 (oOf T):=by
 intro args s v s' h r w us hr hv;have h:ofR T args s = .ok v s':=h;unfold ofR at h;split at h
 ·rename_i i a j t _;cases hv with
  | cons hx ht=>cases ht with
   | cons hy ht =>
    cases ht;cases hc:T a t with
    | none=>rw [hc] at h; cases h
    | some bb =>
     rw [hc] at h;obtain ⟨S,l,m1,m2,hiff,g1,g2⟩:=hT a t bb hc;obtain ⟨z1,a1⟩:=XG hM hr hx m1;obtain ⟨z2,a2⟩:=Fc hM hr hy m2;refine Xf hf hname hb ((ZaT a1 z1.zr a2).mono ?_);rintro _ w' ⟨rfl,h5⟩;cases bb with
     | true =>
      cases h
      have hm:Sig.Q4 0 (fun _=>False) w' (tn (Jj S l)):=by
       rw [hM];unfold QK;rw [h0];exact ⟨_,hiff.1 rfl,g1,g2,rfl⟩
      obtain ⟨q,e1,e2⟩:=EM hr h5 (u:=tn (Jj S l)) rfl (fun b h=>by cases h) (fun k hk _=>hk.elim) hm;exact ⟨_,rfl,q,e1,e2⟩
     | false =>
      cases h
      have hz:Jj S l=0:=by
       by_cases hz:Jj S l=0
       ·exact hz
       ·have:=hiff.2 hz; cases this
      rw [hz];refine ⟨_,rfl,r,Ext.same hr h5,?_⟩;show VR r (.Z2 .f64 0 0) (.complex .f64 (fl 0) (fl 0));rw [qL];exact .Z2 _ _ _
 ·cases h
end
end Ev
end
section
open Go
namespace Ev
noncomputable section
def zN (t:TypeId) (s:St) (m:Option Zd):R:=match m with
 | some (.opq g a) => .ok (.iface t (.map s.next)) (s.new (.opq g a))
 | _ => .bad
def Fm (args:List Zb) (s:St):R:=match args with
 | [.iface t (.map m)]=>zN t s (s.get m)
 | _ => .bad
def ES:Orc:=⟨Fm⟩
def Fo (cs:List Zb):Nat->List Nat->Bool
 | _,[]=>true
 | off,k::ks=>sel (isK (Kt off cs) (.ofNat k)) (Fo cs (off+1) ks) false
def Zhm (off:Nat) (ks:List Nat) (c:Cs):Bool:=match c with
 | .mk cs _ _=>Fo cs off ks
 | .bad=>false
def Uu (s:St) (ks:List Nat) (v:Zb):Bool:=match v with
 | .Za=>(match ks with
  | []=>true
  | _=>false)
 | .slice id off n _=>sel (Nat.beq n ks.length) (Zhm off ks (s.ZK id)) false
 | _=>false
def isS (v:V) (l:List UInt8):Bool:=match v with
 | .ok (.str k)=>QG k l
 | _=>false
def Fp (cs:List Zb):Nat->List (List UInt8×Nat)->Bool
 | _,[]=>true
 | off,f::fs=>sel (isS (Kt off cs) f.1) (sel (isK (Kt (off+1) cs) (.ofNat f.2)) (Fp cs (off+2) fs) false) false
def Zhn (off:Nat) (fs:List (List UInt8×Nat)) (c:Cs):Bool:=match c with
 | .mk cs _ _=>Fp cs off fs
 | .bad=>false
def Uv (s:St) (fs:List (List UInt8×Nat)) (v:Zb):Bool:=match v with
 | .slice id off n _=>sel (Nat.beq n fs.length) (Zhn off fs (s.ZK id)) false
 | _=>false
def lW (s:St) (m:Nat) (o:Option (Nat×Nat)):R:=match o with
 | some p => .ok (.tuple [.gho (s.next+1) p.2,.int .i64 (.ofNat 0)]) (s.Vz.Vz.put m (.opq s.next p.1))
 | none => .bad
def zO (KF:Nat->Option (List Nat×List (List UInt8×Nat))) (T:Nat->Nat->Option (Nat×Nat)) (s:St) (d m:Nat) (kv fv:Zb) (b:Option Zd):R:=match b with
 | some (.opq g a)=>(match KF a with
  | some kf=>sel (Uu s kf.1 kv) (sel (Uv s kf.2 fv) (lW s m (T a d)) .bad) .bad
  | none => .bad)
 | _ => .bad
def zP (KF:Nat->Option (List Nat×List (List UInt8×Nat))) (T:Nat->Nat->Option (Nat×Nat)) (s:St) (d:Nat) (k f m:V):R:=match k,f,m with
 | .ok kv,.ok fv,.ok (.map m)=>zO KF T s d m kv fv (s.get m)
 | _,_,_ => .bad
def uO (KF:Nat->Option (List Nat×List (List UInt8×Nat))) (T:Nat->Nat->Option (Nat×Nat)) (args:List Zb) (s:St):R:=match args with
 | [.ptr p 0,.gho _ d]=>zP KF T s d (cellAt s p 0) (cellAt s p 1) (cellAt s p 2)
 | _ => .bad
def ZkC (KF:Nat->Option (List Nat×List (List UInt8×Nat))) (T:Nat->Nat->Option (Nat×Nat)):Orc:=⟨uO KF T⟩
end
section
variable [Sig] {P:Program} {r:Rho} {s:St} {w:World}
theorem Fq {f:FuncId} {fn:Func} (hf:P.funcs[f]? = some fn) (hname:(fn.name== "runtime.NumGoroutine")=false) (hb:fn.body.isNone=true) (hn:Extern.findNext fn=none) (he:Extern.find fn=some Extern.MapsClone.clone)
  (uP:∀ t F w o,Sig.Xg t F w o->∃ es c,o = .map es c):Qc P f ES:=by
 intro args s v s' h r w us hr hv;have h:Fm args s=R.ok v s':=h;unfold Fm at h;split at h
 ·rename_i t m;cases hv with
  | cons hv ht =>
   cases ht;cases hv with
   | iface _ hv =>
    cases hv with
    | map hm =>
     rename_i x;unfold zN at h;split at h
     ·rename_i g a aJ;cases h;obtain ⟨o,h1,y,gg,h2,h3,h4⟩:=hr.block _ _ _ aJ hm;obtain ⟨es,c,rfl⟩:=uP _ _ _ _ h4;refine .inl ⟨_,w.alloc (.map es c),?_,r.at s.next (RB.of w.heap.size (0) (0)),Ext.new hr rfl (o := .map es c) (by show (w.alloc (.map es c)).heap[w.heap.size]? = _; unfold World.alloc; exact Array.getElem?_push_size) ⟨y,gg,(r.JV _ (hr.Z7 (Nat.le_refl _))) _ _ h2,h3,h4⟩ (fun k hk => ?_) (Nat.le_of_lt (by simp)) rfl rfl rfl,.iface _ (.map (x:=RB.of w.heap.size (0) (0)) (Rho.Zn _ _ _))⟩
      ·rw [run_callFunc_extern hf hname hb hn he];exact congrArg (fun x=>x.andThen fun v w'=>Result.ok (Next.value v) w') (Hp _ h1)
      ·exact Go.RowKit.Below.heap_alloc w _ k hk
     ·cases h
 ·cases h
theorem ZfK (hr:Rel r s w) {w':World} {o:Obj} {F:Nat->Prop} {t:Nat} (hc:Chg (fun _=>False) w w') (hF:∀ k,F k->k<w'.heap.size->JA r k\/w.heap.size<=k) (hm:Sig.Xg t F w' o) :
  ∃ q,Ext r s w q s.Vz w'/\∃ y g,q s.next=some y/\y.gho=some g/\Sig.Xg t g.R4 g.made o/\g.R4=F/\g.made=w':=by
 let g:Gh:=⟨.map none,rfl,(fun b h=>by cases h),F,w'⟩
 let x:RB:=⟨0,0,0,some g⟩
 refine ⟨r.at s.next x,Ext.gho hr (fun g' hg => ?_) (fun g' hg k hk hl => ?_) (fun k hk=>hc.block k hk fun h=>h) hc.size hc.os hc.tape hc.output,x,g,Rho.Zn _ _ _,rfl,hm,rfl,rfl⟩
 ·cases hg;refine ⟨Nat.le_refl _,fun k hk hl=>⟨rfl,fun hh => ?_⟩⟩;rcases hF k hk hl with ⟨i,y,g',e1,e2,e3,e4⟩ | h3
  ·exact ((hr.safe i y g' e1 e2).2 k e3 e4).2 hh
  ·have:=hr.lt hh; omega
 ·cases hg;exact hF k hk hl
theorem zQ {v:V} {k:Int} (h:isK v k=true):v = .ok (.int .i64 k):=by
 unfold isK at h;split at h
 ·rw [QP] at h;rw [eq_of_beq h]
 ·cases h
theorem Zij {v:V} {l:List UInt8} (h:isS v l=true):v = .ok (.str l):=by
 unfold isS at h;split at h
 ·rw [Qo] at h;rw [eq_of_beq h]
 ·cases h
theorem Hq:∀ {cs:List Zb} {ks:List Nat} {off:Nat},Fo cs off ks=true->∀ (j n:Nat),ks[j]? = some n->Kt (off+j) cs = .ok (.int .i64 (n:Int))
 | cs,[],_,_,j,n,hk=>by simp at hk
 | cs,k0::ks,off,h,j,n,hk=>by
  rcases Ze (show sel (isK (Kt off cs) (.ofNat k0)) (Fo cs (off+1) ks) false=true from h) with ⟨h1,h2⟩ | ⟨_,h2⟩
  ·cases j with
   | zero=>simp at hk; subst hk; exact zQ h1
   | succ j =>
    have:=Hq h2 j n (by simpa using hk);rw [show off+(j+1)=off+1+j by omega];exact this
  ·cases h2
theorem Hr:∀ {cs:List Zb} {fs:List (List UInt8×Nat)} {off:Nat},Fp cs off fs=true->∀ (j:Nat) f,fs[j]? = some f->Kt (off+j*2) cs = .ok (.str f.1)/\Kt (off+j*2+1) cs = .ok (.int .i64 (f.2:Int))
 | cs,[],_,_,j,f,hk=>by simp at hk
 | cs,f0::fs,off,h,j,f,hk=>by
  rcases Ze (show sel (isS (Kt off cs) f0.1) (sel (isK (Kt (off+1) cs) (.ofNat f0.2)) (Fp cs (off+2) fs) false) false=true from h) with ⟨h1,h2⟩ | ⟨_,h2⟩
  ·rcases Ze h2 with ⟨h3,h4⟩ | ⟨_,h4⟩
   ·cases j with
    | zero=>simp at hk; subst hk; exact ⟨Zij h1,zQ h3⟩
    | succ j =>
     have:=Hr h4 j f (by simpa using hk);rw [show off+(j+1)*2=off+2+j*2 by omega];exact this
   ·cases h4
  ·cases h2
def YH (fs:List (List UInt8×Nat)):List (ByteArray×Nat):=fs.map fun f=>(⟨⟨f.1⟩⟩,f.2)
theorem Zds (hr:Rel r s w) {p m:Nat} {x y:RB} {kv fv:Zb} (hx:r p=some x) (hy:r m=some y) {ks:List Nat} {fs:List (List UInt8×Nat)} (h0:cellAt s p 0 = .ok kv) (h1:cellAt s p 1 = .ok fv) (h2:cellAt s p 2 = .ok (.map m)) (hk:Uu s ks kv=true) (hf:Uv s fs fv=true)
  (hkl:ks.length<=6) (hfl:fs.length<=6):∃ fb fo fc kc KA,TW w x.blk y.blk fb fo fc kc KA ks (YH fs):=by
 obtain ⟨u0,c0,v0⟩:=QY hr h0 hx;obtain ⟨u1,c1,v1⟩:=QY hr h1 hx;obtain ⟨u2,c2,v2⟩:=QY hr h2 hx
 have hmap:u2 = .map (some y.blk):=by
  cases v2 with
  | map h=>rw [hy] at h; injection h with h; rw [h]
 subst hmap
 have hfun:∃ fb fo fc,u1 = .slice (some ⟨fb,fo,none⟩) fs.length fc/\∀ (j:Nat) f,(YH fs)[j]? = some f->w.cell? ⟨fb,fo+j*2,none⟩=some (.string f.1)/\w.cell? ⟨fb,fo+j*2+1,none⟩=some (.int .i64 (f.2:Int)):=by
  unfold Uv at hf;split at hf
  ·rename_i id off n cap;obtain ⟨h3,h4⟩:=ZF hf;have h3:=Nat.eq_of_beq_eq_true h3;subst h3;cases v1 with
   | slice hz hn hc hu =>
    rename_i z kQ;refine ⟨z.blk,off,kQ,rfl,fun j f hj => ?_⟩;unfold Zhn at h4;split at h4
    ·rename_i cs e o hcs;unfold YH at hj;rw [List.getElem?_map] at hj;obtain ⟨f',hf',rfl⟩:=Option.map_eq_some_iff.1 hj;obtain ⟨e1,e2⟩:=Hr h4 j f' hf';obtain ⟨a1,b1,d1⟩:=T6 hr hz hcs e1;obtain ⟨a2,b2,d2⟩:=T6 hr hz hcs e2;cases d1;cases d2;exact ⟨b1,b2⟩
    ·cases h4
  ·cases hf
 obtain ⟨fb,fo,fc,rfl,ig⟩:=hfun;have iY:(YH fs).length=fs.length:=by simp [YH]
 have hkey:∃ KA kc,u0 = .slice KA ks.length kc/\∀ (j n:Nat),ks[j]? = some n->∃ kb ko,KA=some ⟨kb,ko,none⟩/\w.cell? ⟨kb,ko+j,none⟩=some (.int .i64 (n:Int)):=by
  unfold Uu at hk;split at hk
  ·split at hk
   ·cases v0;exact ⟨none,0,rfl,fun j n hj=>by simp at hj⟩
   ·cases hk
  ·rename_i id off n cap;obtain ⟨h3,h4⟩:=ZF hk;have h3:=Nat.eq_of_beq_eq_true h3;subst h3;cases v0 with
   | slice hz hn hc hu =>
    rename_i z kQ;refine ⟨some ⟨z.blk,off,none⟩,kQ,rfl,fun j n hj=>⟨z.blk,off,rfl,?_⟩⟩;unfold Zhm at h4;split at h4
    ·rename_i cs e o hcs;obtain ⟨a1,b1,d1⟩:=T6 hr hz hcs (Hq h4 j n hj);cases d1;exact b1
    ·cases h4
  ·cases hk
 obtain ⟨KA,kc,rfl,hkk⟩:=hkey;exact ⟨fb,fo,fc,kc,KA,c0,by rw [iY]; exact c1,c2,hkk,ig,hkl,by rw [iY]; exact hfl⟩
end
section
variable [Sig] {M:Nat->Mn} (hM:Sig.Q4=QK M) (hO:Sig.Xg=Ks M)
include hM hO
theorem Zbe {KF:Nat->Option (List Nat×List (List UInt8×Nat))} {T:Nat->Nat->Option (Nat×Nat)}
  (hT:∀ a d kf p,KF a=some kf->T a d=some p->∃ I D I' O,M a = .obj (Wo kf.1 (YH kf.2) I)/\M d = .set D/\M p.1 = .obj (Wo kf.1 (YH kf.2) I')/\M p.2 = .set O/\T0 kf.1 (YH kf.2) I D I' O)
  {fn:Func} {b:Code} (hf:prog.funcs[181]? = some fn) (hname:(fn.name== "runtime.NumGoroutine")=false) (hb:fn.body=some b):Qc prog 181 (ZkC KF T):=by
 intro args s v s' h r w us hr hv;have h0:uO KF T args s = .ok v s':=h;unfold uO at h0;split at h0
 ·rename_i _ p di d;unfold zP at h0;split at h0
  ·rename_i kv fv m hk qM hm;unfold zO at h0;split at h0
   ·rename_i g a hblk;split at h0
    ·rename_i kf hkf;rcases Ze h0 with ⟨hk1,h0⟩ | ⟨_,h0⟩
     ·rcases Ze h0 with ⟨hf1,h0⟩ | ⟨_,h0⟩
      ·cases ht:T a d with
       | none=>rw [ht] at h0; cases h0
       | some pr =>
        rw [ht] at h0;cases h0;obtain ⟨I,D,I',O,m1,m2,m3,m4,hch⟩:=hT a d kf pr hkf ht;cases hv with
        | cons hx ht=>cases ht with
         | cons hy ht =>
          cases ht;cases hx with
          | ptr hx =>
           rename_i x;obtain ⟨z1,a1⟩:=XG hM hr hy m2;obtain ⟨um,cm,vm⟩:=QY hr hm hx;cases vm with
           | map hym =>
            rename_i y;have hkl:kf.1.length<=6:=by have:=hch.n6; omega
            have hfl:kf.2.length<=6:=by have:=hch.n6; simp only [YH,List.length_map] at this; omega
            obtain ⟨fb,fo,fc,kc,KA,hF⟩:=Zds hr hx hym hk qM hm hk1 hf1 hkl hfl;obtain ⟨ob,bD,z,gg,hz,hzg,qN⟩:=hr.block m _ y hblk hym;have jF:=hr.safe g z gg hz hzg;rw [hO] at qN;unfold Ks at qN;rw [m1] at qN;obtain ⟨es,clock,f,rfl,hme,ig⟩:=qN;have iZ:Wn kf.1 (YH kf.2) I (JA r) w f:=((ig.mono (G:=fun b=>gg.R4 b/\b<gg.made.heap.size) fun b hb hl=>⟨hb,hl⟩).move jF.1 fun k hk hl=>(jF.2 k hk.1 hl).1).mono fun b hb _=>⟨g,z,gg,hz,hzg,hb.1,hb.2⟩
            have hfm:∀ b,JA r b->b≠y.blk:=fun b ⟨i,zz,g',e1,e2,e3,e4⟩ e=>((hr.safe i zz g' e1 e2).2 b e3 e4).2 ⟨m,_,y,hblk,hym,e.symm⟩;obtain ⟨KS,sJ,hKn⟩:=hch.KS;refine Xf hf hname hb ((Fg hF ⟨es,clock,bD,hme⟩ hfm a1 z1.zr hch.ds hch.nd (hch.ZlT iZ) (hch.few iZ) (KS:=KS) (fun k hk => ?_) hKn).mono ?_)
            ·obtain ⟨v,hv⟩:=Option.ne_none_iff_exists'.1 hk;obtain ⟨q,hq,e,_⟩:=iZ.to k v hv;rw [e];exact sJ q hq
            ·rintro _ w' ⟨u,S,dn,iJ,rfl,hzS,uQ,hnd,hdn,hset,hc,hmf,uS,oW⟩
             have hSO:S=O:=ZP.uniq hzS hch.o.set fun r=>by
              rw [uQ,hch.on];refine Sb (List.Perm.flatMap_right _ ?_) r;refine (List.perm_ext_iff_of_nodup hnd hch.nd).2 fun k => ?_;rw [hdn,List.mem_map];exact ⟨fun ⟨p,hp,e⟩=>⟨p,hp,e.symm⟩,fun ⟨p,hp,e⟩=>⟨p,hp,e.symm⟩⟩
             subst hSO;obtain ⟨es',clock',uT,uU⟩:=hmf;have tN:y.blk<w.heap.size:=lt_of_block bD
             have iY:=hch.left (F':=fun b=>(w.heap.size<=b\/JA r b/\b<w.heap.size)/\b≠y.blk) iZ hdn (fun v key S told hg=>(hg.mono (H:=fun b=>(w.heap.size<=b\/JA r b/\b<w.heap.size)/\b≠y.blk) fun b hb hl=>⟨.inr ⟨hb,hl⟩,hfm b hb⟩).chg hc fun b hb _ e=>hb.2 e) uS fun p hp=>⟨(oW p hp).1,fun hn=>by
              obtain ⟨v,e1,e2⟩:=(oW p hp).2 hn
              exact ⟨v,e1,e2.mono fun b hb hl=>⟨hb,by
               rcases hb with hb | hb
               ·omega
               ·exact hfm b hb.1⟩⟩⟩
             obtain ⟨w1,hw1⟩:∃ x,x=upd w' y.blk (.map es clock):=⟨_,rfl⟩
             have hsz:w1.heap.size=w'.heap.size:=by rw [hw1]; simp [upd]
             have hne:∀ k,k≠y.blk->w1.heap[k]? = w'.heap[k]? := fun k hk=>by
              rw [hw1];simp only [upd];rw [Array.getElem?_setIfInBounds_ne (Ne.symm hk)]
             have hc1:Chg (fun _=>False) w w1:=by
              refine ⟨by rw [hw1]; exact hc.os,by rw [hw1]; exact hc.tape,by rw [hw1]; exact hc.output,by rw [hsz]; exact hc.size,fun k hk _ => ?_⟩;by_cases qO:k=y.blk
              ·subst qO;rw [bD,hw1];simp only [upd];rw [Array.getElem?_setIfInBounds_self_of_lt (by have:=hc.size; omega)]
              ·rw [hne k qO];exact hc.block k hk qO
             have hfo:Wo kf.1 (YH kf.2) I' (fun b=>(w.heap.size<=b\/JA r b/\b<w.heap.size)/\b≠y.blk) w1 (.map es' clock'):=⟨es',clock',iJ,rfl,uU,iY.move (by rw [hsz]; exact Nat.le_refl _) fun k hk _=>hne k hk.2⟩
             obtain ⟨q1,x1,y1,g1,k1,k2,k3,k4,k5⟩:=ZfK hr (F:=fun b=>(w.heap.size<=b\/JA r b/\b<w.heap.size)/\b≠y.blk) (t:=pr.1) hc1 (fun k hk _=>by
              rcases hk.1 with h | h
              ·exact .inr h
              ·exact .inl h.1) (by rw [hO]; unfold Ks; rw [m3]; exact hfo)
             obtain ⟨q2,x2,v2⟩:=P5 (w':=w1) hM x1.rel (Chg.refl _ w1) (F:=fun b=>w.heap.size<=b/\b<w1.heap.size/\b≠y.blk) (t:=pr.2) (fun k hk _ => .inl ⟨s.next,y1,g1,k1,k2,by rw [k4]; exact ⟨.inl hk.1,hk.2.2⟩,by rw [k5]; exact hk.2.1⟩) m4 hch.o ((hset.mono fun b hb hl=>⟨hb,by rw [hsz]; exact hl,by have hb:w.heap.size<=b:=hb; omega⟩).move (by rw [hsz]; exact Nat.le_refl _) fun k hk _=>hne k hk.2.2);have lN:=x1.trans x2;have x3:=Ext.put (u:=w') (c := .opq s.next pr.1) (o := .map es' clock') lN.rel (i:=m) (b := .opq g a) (by exact hblk) (lN.le _ _ hym) uT ⟨y1,g1,x2.le _ _ k1,k2,k3⟩ (fun k hk=>(hne k hk).symm) hsz.symm (by rw [hw1]; rfl) (by rw [hw1]; rfl) (by rw [hw1]; rfl);exact ⟨_,rfl,q2,lN.trans x3,.tuple (.cons v2 (.cons (.int _ _) .nil))⟩
      ·cases h0
     ·cases h0
    ·cases h0
   ·cases h0
  ·cases h0
 ·cases h0
end
end Ev
end
namespace Ev
open Go
noncomputable section
structure Vw where
 z:Bool
 d:Int
 k:Int
 g:Tr Nat
 e:Tr Nat
 tg:Nat->Nat->Bool
 te:Nat->Bool
 tm:Nat->Bool
def isN (o:Option Nat) (i:Nat):Bool:=match o with
 | some k=>Nat.beq k i
 | none=>false
def Zik (o:Option Nat):Bool:=match o with
 | some _=>false
 | none=>true
def Zbf (z:Bool) (d k:Int) (c a b c' a' b':Int):Bool :=
 sel z (sel (ieq a (.ofNat 0)) (sel (ieq b (.ofNat 0)) (ieq c (c'+b'*k)) false) false)
  (sel (ieq a a') (sel (ieq b (.ofNat 0)) (ieq (c'+a*d+b'*k) c) false) false)
mutual
def YQ (X:Vw):Zb->Zb->Bool
 | .int j a,.int k b=>sel (keq j k) (Zbf X.z X.d X.k a (.ofNat 0) (.ofNat 0) b (.ofNat 0) (.ofNat 0)) false
 | .int j a,.sint k c' a' b'=>sel (keq j k) (Zbf X.z X.d X.k a (.ofNat 0) (.ofNat 0) c' a' b') false
 | .sint j c a b,.int k n=>sel (keq j k) (Zbf X.z X.d X.k c a b n (.ofNat 0) (.ofNat 0)) false
 | .sint j c a b,.sint k c' a' b'=>sel (keq j k) (Zbf X.z X.d X.k c a b c' a' b') false
 | .bool a,.bool b=>Nj a b
 | .flt j a,.flt k b=>sel (G6 j k) (Nat.beq a b) false
 | .Z2 j a c,.Z2 k b e=>sel (G6 j k) (sel (Nat.beq a b) (Nat.beq c e) false) false
 | .str a,.str b=>QG a b
 | .Zo,.Zo=>true
 | .ptr i a,.ptr j b=>sel (isN (X.g.get j) i) (Nat.beq a b) false
 | .Za,.Za=>true
 | .Z4,.Z4=>true
 | .slice i a n none,.slice j b m none=>sel (isN (X.g.get j) i) (sel (Nat.beq a b) (Nat.beq n m) false) false
 | .slice i a n (some c),.slice j b m (some e)=>sel (isN (X.g.get j) i) (sel (Nat.beq a b) (sel (Nat.beq n m) (Nat.beq c e) false) false) false
 | .Zk,.Zk=>true
 | .map i,.map j=>isN (X.g.get j) i
 | .func f a b,.func g a' b'=>sel (Nat.beq f g) (sel (JR X a a') (JR X b b') false) false
 | .ZJ,.ZJ=>true
 | .nilIface,.nilIface=>true
 | .iface t a,.iface u b=>sel (Nat.beq t u) (YQ X a b) false
 | .agg a,.agg b=>JR X a b
 | .tuple a,.tuple b=>JR X a b
 | .gho i a,.gho j b=>sel (isN (X.g.get j) i) (X.tg a b) false
 | .Za,.gho j b=>sel (Zik (X.g.get j)) (sel (isN (X.e.get j) 0) (X.te b) false) false
 | _,_=>false
def JR (X:Vw):List Zb->List Zb->Bool
 | [],[]=>true
 | x::xs,y::ys=>sel (YQ X x y) (JR X xs ys) false
 | _,_=>false
end
def Th (X:Vw):List Entry->List Entry->Bool
 | [],[]=>true
 | (a,b,n)::l,(a',b',m)::k=>sel (YQ X a a') (sel (YQ X b b') (sel (Nat.beq n m) (Th X l k) false) false) false
 | _,_=>false
def ET (X:Vw):Zd->Zd->Bool
 | .cells cs e o,.cells ds f p=>sel (Nat.beq e f) (sel p (JR X cs ds) (sel o false (JR X cs ds))) false
 | .map es c,.map fs k=>sel (Nat.beq c k) (Th X es fs) false
 | .opq i a,.opq j b=>sel (isN (X.g.get j) i) (X.tg a b) false
 | .map [] c,.opq j b=>sel (Zik (X.g.get j)) (sel (isN (X.e.get j) 0) (X.tm b) false) false
 | _,_=>false
def Zdt (X:Vw) (o:Option Zd) (b:Zd):Bool:=match o with
 | some c=>ET X c b
 | none=>false
def uV (X:Vw) (f:Tr Nat) (t:Tr Zd) (j:Nat) (b:Zd):Bool:=match X.g.get j with
 | some i=>sel (isN (f.get i) j) (Zdt X (t.get i) b) false
 | none=>false
def Cu (X:Vw) (f:Tr Nat) (t:Tr Zd):List (Nat×Zd)->Bool
 | []=>true
 | (j,b)::l=>sel (uV X f t j b) (Cu X f t l) false
def Ti (n:Nat):List (Nat×Nat)->Bool
 | []=>true
 | (j,_)::l=>sel (Nat.blt j n) (Ti n l) false
end
variable {P:Program}
theorem Jg {u v:Bool} (h:sel u v false=true):u=true/\v=true:=by
 cases u
 ·cases h
 ·exact ⟨rfl,h⟩
theorem WU {o:Option Nat} {i:Nat} (h:isN o i=true):o=some i:=by
 cases o with
 | none=>cases h
 | some k=>rw [show k=i from Nat.eq_of_beq_eq_true h]
theorem EU {o:Option Nat} (h:Zik o=true):o=none:=by cases o with
 | none=>rfl
 | some _=>cases h
theorem P8 {S S':Sig} {z:Bool} {d k c a b c' a' b':Int} (h:Zbf z d k c a b c' a' b'=true) (hz:z=true->S'.x=0) (hd:z=false->S'.x=S.x+d) (hk:S'.y=k):c+a*S.x+b*S.y=c'+a'*S'.x+b'*S'.y:=by
 have t:∀ {u v:Bool},sel u v false=true->u=true/\v=true:=fun {u v} h=>by cases u; cases h; exact ⟨rfl,h⟩
 have e:∀ {u v:Int},ieq u v=true->u=v:=fun {u v} h=>by
  cases u <;> cases v <;> first | (cases h; done) | exact congrArg _ (Nat.eq_of_beq_eq_true h)
 unfold Zbf at h;cases z
 ·have h:sel (ieq a a') (sel (ieq b (.ofNat 0)) (ieq (c'+a*d+b'*k) c) false) false=true:=h;have hd:=hd rfl;obtain ⟨h1,h⟩:=t h;obtain ⟨h2,h4⟩:=t h;have h1:=e h1;have h2:b=0:=e h2;have h4:=e h4;subst h1 h2;rw [hd,hk,Int.mul_add];omega
 ·have h:sel (ieq a (.ofNat 0)) (sel (ieq b (.ofNat 0)) (ieq c (c'+b'*k)) false) false=true:=h;have hz:=hz rfl;obtain ⟨h1,h⟩:=t h;obtain ⟨h2,h4⟩:=t h;have h1:a=0:=e h1;have h2:b=0:=e h2;have h4:=e h4;subst h1 h2 h4;rw [hz,hk];omega
section
variable {S S':Sig} (X:Vw) (r q:Rho)
structure Zil:Prop where
 hz:X.z=true->S'.x=0
 hd:X.z=false->S'.x=S.x+X.d
 hk:S'.y=X.k
 old:∀ j i x,X.g.get j=some i->r i=some x->q j=some x
 emp:∀ j,X.g.get j=none->X.e.get j=some 0->∃ x g,q j=some x/\x.gho=some g/\g.val = .slice none 0 0/\∀ b,X.te b=true->S'.Q4 b g.R4 g.made (.slice none 0 0)
 sig:∀ a b,X.tg a b=true->∀ F w v,S.Q4 a F w v->S'.Q4 b F w v
 ZlW:∀ a b,X.tg a b=true->∀ F w o,S.Xg a F w o->S'.Xg b F w o
 ZlX:∀ j,X.g.get j=none->X.e.get j=some 0->∃ x g,q j=some x/\x.gho=some g/\∀ b,X.tm b=true->∀ c,S'.Xg b g.R4 g.made (.map #[] c)
variable {X r q} (hX:@Zil S S' X r q)
include hX
mutual
theorem Sd:∀ (x y:Zb) (u:Value),YQ X x y=true->@VR S r x u->@VR S' q y u
 | .int j a,y,u,h,hv=>by
  cases y <;> first
   | (cases h; done)
   | (
     rename_i k b;obtain ⟨h1,h2⟩:=Jg h;have h1:=@JD S j k h1;subst h1;have h3:=P8 (S:=S) (S':=S') h2 hX.hz hX.hd hX.hk;cases hv
     have h4:a=b:=by
      have e1:a+(Int.ofNat 0)*S.x+(Int.ofNat 0)*S.y=a:=by show a+0*S.x+0*S.y=a; omega
      have e2:b+(Int.ofNat 0)*S'.x+(Int.ofNat 0)*S'.y=b:=by show b+0*S'.x+0*S'.y=b; omega
      rw [e1,e2] at h3;exact h3
     subst h4
     exact @VR.int S' q j a)
   | (
     rename_i k c' a' b';obtain ⟨h1,h2⟩:=Jg h;have h1:=@JD S j k h1;subst h1;have h3:=P8 (S:=S) (S':=S') h2 hX.hz hX.hd hX.hk;cases hv;refine @VR.sint S' q j c' a' b' a ?_;have e1:a+(Int.ofNat 0)*S.x+(Int.ofNat 0)*S.y=a:=by show a+0*S.x+0*S.y=a; omega
     rw [e1] at h3
     exact h3)
 | .sint j c a b,y,u,h,hv=>by
  cases y <;> first
   | (cases h; done)
   | (
     rename_i k n;obtain ⟨h1,h2⟩:=Jg h;have h1:=@JD S j k h1;subst h1;have h3:=P8 (S:=S) (S':=S') h2 hX.hz hX.hd hX.hk;cases hv;rename_i m hm;have e2:n+(Int.ofNat 0)*S'.x+(Int.ofNat 0)*S'.y=n:=by show n+0*S'.x+0*S'.y=n; omega
     rw [e2,<- hm] at h3;subst h3
     exact @VR.int S' q j m)
   | (
     rename_i k c' a' b';obtain ⟨h1,h2⟩:=Jg h;have h1:=@JD S j k h1;subst h1;have h3:=P8 (S:=S) (S':=S') h2 hX.hz hX.hd hX.hk;cases hv;rename_i m hm
     exact @VR.sint S' q j c' a' b' m (hm.trans h3))
 | .bool a,y,u,h,hv=>by
  cases y <;> first | (cases h; done) | (have h:Nj _ _=true:=h; rw [@T8 S] at h; have h:=eq_of_beq h; subst h; cases hv; exact @VR.bool S' q _)
 | .flt j a,y,u,h,hv=>by
  cases y <;> first | (cases h; done) | (obtain ⟨h1,h2⟩:=Jg h; have h1:=@T9 S _ _ h1; have h2:=Nat.eq_of_beq_eq_true h2; subst h1 h2; cases hv; exact @VR.flt S' q _ _)
 | .Z2 j a c,y,u,h,hv=>by
  cases y <;> first | (cases h; done) | (obtain ⟨h1,h2⟩:=Jg h; obtain ⟨h2,h3⟩:=Jg h2; have h1:=@T9 S _ _ h1; have h2:=Nat.eq_of_beq_eq_true h2; have h3:=Nat.eq_of_beq_eq_true h3; subst h1 h2 h3; cases hv; exact @VR.Z2 S' q _ _ _)
 | .str a,y,u,h,hv=>by
  cases y <;> first | (cases h; done) | (have h:QG _ _=true:=h; rw [@Qo S] at h; have h:=eq_of_beq h; subst h; cases hv; exact @VR.str S' q _)
 | .Zo,y,u,h,hv=>by cases y <;> first | (cases h; done) | (cases hv; exact @VR.Zo S' q)
 | .ptr i a,y,u,h,hv=>by
  cases y <;> first | (cases h; done) | (obtain ⟨h1,h2⟩:=Jg h; have h1:=WU h1; have h2:=Nat.eq_of_beq_eq_true h2; subst h2; cases hv; rename_i hx; exact @VR.ptr S' q _ _ _ (hX.old _ _ _ h1 hx))
 | .Za,y,u,h,hv=>by
  cases y <;> first
   | (cases h; done)
   | (cases hv; exact @VR.Za S' q)
   | (
     rename_i j b;obtain ⟨h1,h2⟩:=Jg h;obtain ⟨h2,h3⟩:=Jg h2;obtain ⟨x,g,e1,e2,e3,e4⟩:=hX.emp j (EU h1) (WU h2);cases hv
     exact @VR.gho S' q j b x g _ e1 e2 e3 (e4 b h3))
 | .Z4,y,u,h,hv=>by cases y <;> first | (cases h; done) | (cases hv; exact @VR.Z4 S' q _ _)
 | .slice i a n c,y,u,h,hv=>by
  cases y with
  | slice j b m e =>
   cases c <;> cases e
   ·obtain ⟨h1,h2⟩:=Jg h;obtain ⟨h2,h3⟩:=Jg h2;have h1:=WU h1;have h2:=Nat.eq_of_beq_eq_true h2;have h3:=Nat.eq_of_beq_eq_true h3;subst h2 h3;cases hv with
    | slice hx hn hc hu=>exact @VR.slice S' q _ _ _ _ _ _ (hX.old _ _ _ h1 hx) hn hc hu
   ·cases h
   ·cases h
   ·obtain ⟨h1,h2⟩:=Jg h;obtain ⟨h2,h3⟩:=Jg h2;obtain ⟨h3,h4⟩:=Jg h3;have h1:=WU h1;have h2:=Nat.eq_of_beq_eq_true h2;have h3:=Nat.eq_of_beq_eq_true h3;have h4:=Nat.eq_of_beq_eq_true h4;subst h2 h3 h4;cases hv with
    | slice hx hn hc hu=>exact @VR.slice S' q _ _ _ _ _ _ (hX.old _ _ _ h1 hx) hn hc hu
  | _=>cases c <;> cases h
 | .Zk,y,u,h,hv=>by cases y <;> first | (cases h; done) | (cases hv; exact @VR.Zk S' q)
 | .map i,y,u,h,hv=>by
  cases y <;> first | (cases h; done) | (have h1:=WU h; cases hv; rename_i hx; exact @VR.map S' q _ _ (hX.old _ _ _ h1 hx))
 | .func f a b,y,u,h,hv=>by
  cases y with
  | func g a' b' =>
   obtain ⟨h1,h2⟩:=Jg (show sel (Nat.beq f g) (sel (JR X a a') (JR X b b') false) false=true from h);obtain ⟨h2,h3⟩:=Jg h2;have h1:=Nat.eq_of_beq_eq_true h1;subst h1;cases hv with
   | func _ ha hb=>exact @VR.func S' q _ _ _ _ _ (Ym a a' _ h2 ha) (Ym b b' _ h3 hb)
  | _=>cases h
 | .ZJ,y,u,h,hv=>by cases y <;> first | (cases h; done) | (cases hv; exact @VR.ZJ S' q)
 | .nilIface,y,u,h,hv=>by cases y <;> first | (cases h; done) | (cases hv; exact @VR.nilIface S' q)
 | .iface t a,y,u,h,hv=>by
  cases y with
  | iface k b =>
   obtain ⟨h1,h2⟩:=Jg (show sel (Nat.beq t k) (YQ X a b) false=true from h);have h1:=Nat.eq_of_beq_eq_true h1;subst h1;cases hv with
   | iface _ hb=>exact @VR.iface S' q _ _ _ (Sd a b _ h2 hb)
  | _=>cases h
 | .agg a,y,u,h,hv=>by
  cases y with
  | agg b =>
   cases hv with
   | agg hb=>exact @VR.agg S' q _ _ (Ym a b _ h hb)
  | _=>cases h
 | .tuple a,y,u,h,hv=>by
  cases y with
  | tuple b =>
   cases hv with
   | tuple hb=>exact @VR.tuple S' q _ _ (Ym a b _ h hb)
  | _=>cases h
 | .raw _,y,u,h,hv=>by cases y <;> cases h
 | .gho i a,y,u,h,hv=>by
  cases y <;> first
   | (cases h; done)
   | (
     rename_i j b;obtain ⟨h1,h2⟩:=Jg h;have h1:=WU h1;cases hv with
     | gho hx hg hu hm=>exact @VR.gho S' q _ _ _ _ _ (hX.old _ _ _ h1 hx) hg hu (hX.sig _ _ h2 _ _ _ hm))
theorem Ym:∀ (x y:List Zb) (u:List Value),JR X x y=true->@VRs S r x u->@VRs S' q y u
 | [],[],_,_,hv=>by cases hv; exact @VRs.nil S' q
 | [],_::_,_,h,_=>by simp [JR] at h
 | _::_,[],_,h,_=>by simp [JR] at h
 | x::xs,y::ys,u,h,hv=>by
  obtain ⟨h1,h2⟩:=Jg (show sel (YQ X x y) (JR X xs ys) false=true from (by simpa only [JR] using h));cases hv with
  | cons ha hb=>exact @VRs.cons S' q _ _ _ _ (Sd x y _ h1 ha) (Ym xs ys _ h2 hb)
end
theorem EV:∀ (x y:List Entry) (u:List MapEntry),Th X x y=true->@ERs S r x u->@ERs S' q y u
 | [],[],_,_,hv=>by cases hv; exact @ERs.nil S' q
 | [],_::_,_,h,_=>by simp [Th] at h
 | _::_,[],_,h,_=>by simp [Th] at h
 | (a,b,n)::l,(a',b',m)::k,u,h,hv=>by
  obtain ⟨h1,h⟩:=Jg (show sel (YQ X a a') (sel (YQ X b b') (sel (Nat.beq n m) (Th X l k) false) false) false=true from (by simpa only [Th] using h));obtain ⟨h2,h⟩:=Jg h;obtain ⟨h3,h4⟩:=Jg h;have h3:=Nat.eq_of_beq_eq_true h3;subst h3;cases hv with
  | cons hh ht=>exact @ERs.cons S' q _ _ _ _ ⟨Sd hX a a' _ h1 hh.1,Sd hX b b' _ h2 hh.2.1,hh.2.2⟩ (EV l k _ h4 ht)
theorem Zim:∀ (b c:Zd) (x:RB) (o:Obj),ET X b c=true->@BR S r b x o->@BR S' q c x o
 | .cells cs e o,.cells ds f p,x,ob,h,hb=>by
  obtain ⟨h1,hq⟩:=Jg h;have h1:=Nat.eq_of_beq_eq_true h1;subst h1;obtain ⟨h0,vs,rest,t,fr,h4,h5,h6,h7,h8⟩:=hb
  have h2:JR X cs ds=true/\(p=false->o=false):=by
   cases p
   ·cases o
    ·exact ⟨hq,fun _=>rfl⟩
    ·cases hq
   ·exact ⟨hq,fun h=>by cases h⟩
  exact ⟨h0,vs,rest,t,fr,h4,Ym hX cs ds _ h2.1 h5,h6,fun hp=>h7 (h2.2 hp),h8⟩
 | .map es c,.map fs k,x,ob,h,hb=>by
  obtain ⟨h1,h2⟩:=Jg h;have h1:=Nat.eq_of_beq_eq_true h1;subst h1;obtain ⟨l,h3,h4⟩:=hb;exact ⟨l,h3,EV hX es fs _ h2 h4⟩
 | .cells _ _ _,.map _ _,_,_,h,_=>by cases h
 | .cells _ _ _,.mapIter _ _ _ _,_,_,h,_=>by cases h
 | .map _ _,.cells _ _ _,_,_,h,_=>by cases h
 | .map _ _,.mapIter _ _ _ _,_,_,h,_=>by cases h
 | .mapIter _ _ _ _,.cells _ _ _,_,_,h,_=>by cases h
 | .mapIter _ _ _ _,.map _ _,_,_,h,_=>by cases h
 | .mapIter _ _ _ _,.mapIter _ _ _ _,_,_,h,_=>by cases h
 | .opq i a,.opq j b,x,ob,h,hb=>by
  obtain ⟨h1,h2⟩:=Jg h;obtain ⟨y,g,h3,h4,h5⟩:=hb;exact ⟨y,g,hX.old _ _ _ (WU h1) h3,h4,hX.ZlW _ _ h2 _ _ _ h5⟩
 | .map [] c,.opq j b,x,ob,h,hb=>by
  obtain ⟨h1,h⟩:=Jg h;obtain ⟨h2,h3⟩:=Jg h;obtain ⟨l,h4,h5⟩:=hb;cases h5;subst h4;obtain ⟨y,g,e1,e2,e3⟩:=hX.ZlX j (EU h1) (WU h2);exact ⟨y,g,e1,e2,e3 b h3 c⟩
 | .map (_::_) _,.opq _ _,_,_,h,_=>by cases h
 | .cells _ _ _,.opq _ _,_,_,h,_=>by cases h
 | .mapIter _ _ _ _,.opq _ _,_,_,h,_=>by cases h
 | .opq _ _,.cells _ _ _,_,_,h,_=>by cases h
 | .opq _ _,.map _ _,_,_,h,_=>by cases h
 | .opq _ _,.mapIter _ _ _ _,_,_,h,_=>by cases h
end
theorem Cv {X:Vw} {f:Tr Nat} {t:Tr Zd}:∀ {l:List (Nat×Zd)},Cu X f t l=true->∀ j b,(j,b)∈l->∃ i c,X.g.get j=some i/\f.get i=some j/\t.get i=some c/\ET X c b=true
 | [],_,_,_,h=>by cases h
 | (k,c)::l,h,j,b,hm=>by
  obtain ⟨h1,h2⟩:=Jg (show sel (uV X f t k c) (Cu X f t l) false=true from h);rcases List.mem_cons.1 hm with hm | hm
  ·cases hm;unfold uV at h1;split at h1
   ·rename_i i hi;obtain ⟨h3,h4⟩:=Jg h1;unfold Zdt at h4;split at h4
    ·rename_i c' hc; exact ⟨i,c',hi,WU h3,hc,h4⟩
    ·cases h4
   ·cases h1
  ·exact Cv h2 j b hm
theorem Se {n:Nat}:∀ {l:List (Nat×Nat)},Ti n l=true->∀ j i,(j,i)∈l->j<n
 | [],_,_,_,h=>by cases h
 | (k,c)::l,h,j,b,hm=>by
  obtain ⟨h1,h2⟩:=Jg (show sel (Nat.blt k n) (Ti n l) false=true from h);rcases List.mem_cons.1 hm with hm | hm
  ·cases hm;exact Nat.le_of_ble_eq_true h1
  ·exact Se h2 j b hm
def qP (w:World):RB:=⟨0,0,0,some { val := .slice none 0 0,one:=rfl,nob:=(fun b h=>by cases h),R4:=fun _=>False,made:=w }⟩
noncomputable def Ku (X:Vw) (r:Rho) (w:World):Rho:=fun j=>match X.g.get j with
 | some i=>r i
 | none=>match X.e.get j with
  | some 0=>some (qP w)
  | _=>none
theorem Cw {S S':Sig} {X:Vw} {f:Tr Nat} {L:List (Nat×Zd)} {gl el:List (Nat×Nat)} {n:Nat} {r:Rho} {s:St} {w:World}
  (h:@Rel S r s w) (hg:X.g=Z8 gl .lf) (he:X.e=Z8 el .lf) (hL:Cu X f s.heap L=true) (hb1:Ti n gl=true) (hb2:Ti n el=true)
  (hz:X.z=true->S'.x=0) (hd:X.z=false->S'.x=S.x+X.d) (hk:S'.y=X.k) (jG:∀ a b,X.tg a b=true->∀ F w v,S.Q4 a F w v->S'.Q4 b F w v)
  (hte:∀ b,X.te b=true->S'.Q4 b (fun _=>False) w (.slice none 0 0)) (hto:∀ a b,X.tg a b=true->∀ F w o,S.Xg a F w o->S'.Xg b F w o) (kR:∀ b,X.tm b=true->∀ c,S'.Xg b (fun _=>False) w (.map #[] c)) :
  @Zil S S' X r (Ku X r w)/\@Rel S' (Ku X r w) ⟨Z8 L .lf,n⟩ w/\(∀ k,Hit (Ku X r w) ⟨Z8 L .lf,n⟩ k->Hit r s k)/\∀ k,JA (Ku X r w) k->JA r k:=by
 obtain ⟨⟨hblk,aaq⟩,hap,hkn,hsf⟩:=h;have hold:∀ j i x,X.g.get j=some i->r i=some x->Ku X r w j=some x:=fun j i x h1 h2=>by unfold Ku; rw [h1]; exact h2
 have eP:∀ j i,X.g.get j=some i->Ku X r w j=r i:=fun j i h1=>by unfold Ku; rw [h1]
 have hV:@Zil S S' X r (Ku X r w):=⟨hz,hd,hk,hold,fun j h1 h2=>⟨qP w,_,by unfold Ku; rw [h1,h2]; rfl,rfl,rfl,hte⟩,jG,hto,fun j h1 h2=>⟨qP w,_,by unfold Ku; rw [h1,h2]; rfl,rfl,kR⟩⟩
 have hbl:∀ j b,(⟨Z8 L .lf,n⟩:St).get j=some b->∃ i c,X.g.get j=some i/\f.get i=some j/\s.get i=some c/\ET X c b=true:=fun j b h1=>Cv hL j b (Jz h1);have hlt:∀ j i,X.g.get j=some i->j<n:=fun j i h1=>Se hb1 j i (Jz (hg▸h1));have hlt2:∀ j i,X.e.get j=some i->j<n:=fun j i h1=>Se hb2 j i (Jz (he▸h1))
 have hhit:∀ k,Hit (Ku X r w) ⟨Z8 L .lf,n⟩ k->Hit r s k:=fun k ⟨j,b,x,h1,h2,h3⟩=>by
  obtain ⟨i,c,e1,e2,e3,e4⟩:=hbl j b h1;rw [eP j i e1] at h2;exact ⟨i,c,x,e3,h2,h3⟩
 have hgo:∀ j x g,Ku X r w j=some x->x.gho=some g->(∃ i,r i=some x)\/x=qP w:=fun j x g h1 h2=>by
  unfold Ku at h1;split at h1
  ·exact .inl ⟨_,h1⟩
  ·split at h1
   ·injection h1 with h1; exact .inr h1.symm
   ·cases h1
 refine ⟨hV,@Rel.mk S' _ _ _ (@RelB.mk S' _ _ _ (fun j b x h1 h2 => ?_) fun j hj => ?_) (fun i j b c x y h1 h2 hx hy hxy => ?_) (fun j x h1 => ?_) (fun j x g h1 h2 => ?_),hhit,fun k ⟨j,x,g,h1,h2,h3,h4⟩ => ?_⟩
 ·obtain ⟨i,c,e1,e2,e3,e4⟩:=hbl j b h1;rw [eP j i e1] at h2;obtain ⟨o,h5,h6⟩:=hblk i c x e3 h2;exact ⟨o,h5,Zim hV c b x o e4 h6⟩
 ·cases hb:(⟨Z8 L .lf,n⟩:St).get j with
  | none=>rfl
  | some b =>
   obtain ⟨i,c,e1,_⟩:=hbl j b hb;have:=hlt j i e1;have hj:n<=j:=hj;omega
 ·obtain ⟨i',c1,e1,e2,e3,e4⟩:=hbl i b h1;obtain ⟨j',c2,f1,f2,f3,f4⟩:=hbl j c h2;rw [eP i i' e1] at hx;rw [eP j j' f1] at hy;have:=hap i' j' c1 c2 x y e3 f3 hx hy hxy;subst this;rw [e2] at f2;exact Option.some.inj f2
 ·show j<n;cases hj:X.g.get j with
  | some i=>exact hlt j i hj
  | none =>
   cases hk:X.e.get j with
   | some i=>exact hlt2 j i hk
   | none =>
    unfold Ku at h1;rw [hj,hk] at h1;cases h1
 ·rcases hgo j x g h1 h2 with ⟨i,hi⟩ | rfl
  ·exact (hsf i x g hi h2).step (Nat.le_refl _) (fun _ _ _=>rfl) fun k hk => .inl (hhit k hk)
  ·injection h2 with h2
   subst h2;exact ⟨Nat.le_refl _,fun k hk=>hk.elim⟩
 ·rcases hgo j x g h1 h2 with ⟨i,hi⟩ | rfl
  ·exact ⟨i,x,g,hi,h2,h3,h4⟩
  ·injection h2 with h2
   subst h2;exact h3.elim
end Ev
namespace Ev
open Go
section
variable [Sig] {P:Program} {r:Rho} {s:St} {w:World}
theorem Rel.Zf (hr:Rel r s w) {w':World} (hc:Chg (fun _=>False) w w'):Rel r s w':=(Ext.same hr hc).rel
theorem Hs (hr:Rel r s w) {u:Value} {F:Nat->Prop} {t:Nat} (h1:u.oneCell'=true) (h2:∀ b,u ≠ .bool b) (hF:∀ k,F k->¬ Hit r s k) (hm:Sig.Q4 t F w u) :
  ∃ q,Rel q s.Vz w/\r.le q/\VR q (.gho s.next t) u/\(∀ k,Hit q s.Vz k->Hit r s k)/\∀ k,JA q k->JA r k\/F k:=by
 let g:Gh:=⟨u,h1,h2,F,w⟩
 let x:RB:=⟨0,0,0,some g⟩
 have hle:r.le (r.at s.next x):=Rho.JV r x (hr.Z7 (Nat.le_refl _));have old:∀ {i},i≠s.next->(r.at s.next x) i=r i:=fun {i} h=>Rho.Zx r x h;have hlow:∀ {i b},s.get i=some b->(r.at s.next x) i=r i:=fun {i b} h=>old (by have:=hr.below h; omega)
 have hhit:∀ k,Hit (r.at s.next x) s.Vz k->Hit r s k:=fun k ⟨i,b,y,hb,hy,hk⟩=>by
  have hb:s.get i=some b:=hb;rw [hlow hb] at hy;exact ⟨i,b,y,hb,hy,hk⟩
 refine ⟨r.at s.next x,⟨⟨fun i b y hb hy => ?_,fun i hi => ?_⟩,fun i j b c y z hb hc hy hz bJ => ?_,fun i y hy => ?_,fun i y g' hy hg => ?_⟩,hle,.gho (Rho.Zn _ _ _) rfl rfl hm,hhit,fun k ⟨i,y,g',hy,hg,hf,hl⟩ => ?_⟩
 ·have hb:s.get i=some b:=hb;rw [hlow hb] at hy;obtain ⟨o,h3,h4⟩:=hr.block i b y hb hy;exact ⟨o,h3,h4.mono hle⟩
 ·have hi:s.next+1<=i:=hi;exact hr.far i (by omega)
 ·have hb:s.get i=some b:=hb;have hc:s.get j=some c:=hc;rw [hlow hb] at hy;rw [hlow hc] at hz;exact hr.apart i j b c y z hb hc hy hz bJ
 ·show i<s.next+1;by_cases hi:i=s.next
  ·omega
  ·rw [old hi] at hy;have:=hr.known i y hy;omega
 ·by_cases hi:i=s.next
  ·subst hi;rw [Rho.Zn] at hy;cases hy;cases hg;exact ⟨Nat.le_refl _,fun k hk hl=>⟨rfl,fun hh=>hF k hk (hhit k hh)⟩⟩
  ·rw [old hi] at hy;exact (hr.safe i y g' hy hg).step (Nat.le_refl _) (fun _ _ _=>rfl) fun k hk => .inl (hhit k hk)
 ·by_cases hi:i=s.next
  ·subst hi;rw [Rho.Zn] at hy;cases hy;cases hg;exact .inr hf
  ·rw [old hi] at hy;exact .inl ⟨i,y,g',hy,hg,hf,hl⟩
theorem Ht (hr:Rel r s w) {k e:Nat} {cs:List Zb} {vs:List Value} {t:TypeId} (ho:w.heap[k]? = some (.cells ⟨vs⟩ t (0,0))) (hv:VRs r cs vs) (hn:¬ Hit r s k) (hf:¬ JA r k) :
  ∃ q,Rel q (s.new (.cells cs e false)) w/\r.le q/\q s.next=some (RB.of k vs.length e)/\(∀ j,Hit q (s.new (.cells cs e false)) j->Hit r s j\/j=k)/\∀ j,JA q j->JA r j:=by
 let x:RB:=RB.of k vs.length e
 have hle:r.le (r.at s.next x):=Rho.JV r x (hr.Z7 (Nat.le_refl _));have old:∀ {i},i≠s.next->(r.at s.next x) i=r i:=fun {i} h=>Rho.Zx r x h
 have two:∀ {i b y},(s.new (.cells cs e false)).get i=some b->(r.at s.next x) i=some y->(i=s.next/\b = .cells cs e false/\y=x)\/(i≠s.next/\s.get i=some b/\r i=some y):=fun {i b y} hb hy=>by
  rw [St.ZC] at hb;by_cases hi:s.next=i
  ·rw [if_pos hi] at hb;subst hi;rw [Rho.Zn] at hy;cases hb;cases hy;exact .inl ⟨rfl,rfl,rfl⟩
  ·rw [if_neg hi] at hb;rw [old (fun e=>hi e.symm)] at hy;exact .inr ⟨fun e=>hi e.symm,hb,hy⟩
 have hhit:∀ j,Hit (r.at s.next x) (s.new (.cells cs e false)) j->Hit r s j\/j=k:=fun j ⟨i,b,y,hb,hy,hk⟩=>by
  rcases two hb hy with ⟨_,_,rfl⟩ | ⟨_,h1,h2⟩
  ·exact .inr hk.symm
  ·exact .inl ⟨i,b,y,h1,h2,hk⟩
 refine ⟨r.at s.next x,⟨⟨fun i b y hb hy => ?_,fun i hi => ?_⟩,fun i j b c y z hb hc hy hz bJ => ?_,fun i y hy => ?_,fun i y g' hy hg => ?_⟩,hle,Rho.Zn _ _ _,hhit,fun j ⟨i,y,g',hy,hg,hf,hl⟩ => ?_⟩
 ·rcases two hb hy with ⟨rfl,rfl,rfl⟩ | ⟨_,h1,h2⟩
  ·exact ⟨_,ho,rfl,vs,[],t,(0,0),by rw [List.append_nil],hv.mono hle,by rw [List.append_nil],fun _=>rfl,fun i _ h=>by have:=h.2; simp at this⟩
  ·obtain ⟨o,h3,h4⟩:=hr.block i b y h1 h2;exact ⟨o,h3,h4.mono hle⟩
 ·have hi:s.next+1<=i:=hi;rw [St.ZC,if_neg (by omega)];exact hr.far i (by omega)
 ·rcases two hb hy with ⟨rfl,rfl,rfl⟩ | ⟨_,h1,h2⟩ <;> rcases two hc hz with ⟨rfl,rfl,rfl⟩ | ⟨_,h3,h4⟩
  ·rfl
  ·exact absurd ⟨j,c,z,h3,h4,bJ.symm⟩ hn
  ·exact absurd ⟨i,b,y,h1,h2,bJ⟩ hn
  ·exact hr.apart i j b c y z h1 h3 h2 h4 bJ
 ·show i<s.next+1;by_cases hi:i=s.next
  ·omega
  ·rw [old hi] at hy;have:=hr.known i y hy;omega
 ·by_cases hi:i=s.next
  ·subst hi;rw [Rho.Zn] at hy;cases hy;cases hg
  ·rw [old hi] at hy;obtain ⟨h1,h2⟩:=hr.safe i y g' hy hg;refine ⟨h1,fun j hj hl=>⟨(h2 j hj hl).1,fun hh => ?_⟩⟩;rcases hhit j hh with h3 | rfl
   ·exact (h2 j hj hl).2 h3
   ·exact hf ⟨i,y,g',hy,hg,hj,hl⟩
 ·by_cases hi:i=s.next
  ·subst hi;rw [Rho.Zn] at hy;cases hy;cases hg
  ·rw [old hi] at hy;exact ⟨i,y,g',hy,hg,hf,hl⟩
end
end Ev
section
open Go
namespace Ev
noncomputable section
def Cy:List (Nat×Nat)->Nat->Option Nat
 | [],_=>none
 | (x,y)::l,a=>sel (Nat.beq x a) (some y) (Cy l a)
def Hu:List (Nat×Nat×Nat)->Nat->Nat->Option Nat
 | [],_,_=>none
 | (x,y,z)::l,a,b=>sel (Nat.beq x a) (sel (Nat.beq y b) (some z) (Hu l a b)) (Hu l a b)
def Pc:List (Nat×Nat×Bool×Nat)->Nat->Nat->Bool->Option Nat
 | [],_,_,_=>none
 | (x,y,z,u)::l,a,b,c=>sel (Nat.beq x a) (sel (Nat.beq y b) (sel (Nj z c) (some u) (Pc l a b c)) (Pc l a b c)) (Pc l a b c)
def Cz:List (Nat×List Int)->Nat->Option (List Int)
 | [],_=>none
 | (x,y)::l,a=>sel (Nat.beq x a) (some y) (Cz l a)
def CB (v:Bool) (l:List Nat) (a:Nat):Option Bool:=sel (WK a l) (some v) none
def Hv:List (Nat×Nat×Bool)->Nat->Nat->Option Bool
 | [],_,_=>none
 | (x,y,z)::l,a,b=>sel (Nat.beq x a) (sel (Nat.beq y b) (some z) (Hv l a b)) (Hv l a b)
def Hw:List (Nat×Nat×Nat×Nat)->Nat->Nat->Option (Nat×Nat)
 | [],_,_=>none
 | (x,y,z,u)::l,a,b=>sel (Nat.beq x a) (sel (Nat.beq y b) (some (z,u)) (Hw l a b)) (Hw l a b)
def lookW:List (Nat×List Nat×List (List UInt8×Nat))->Nat->Option (List Nat×List (List UInt8×Nat))
 | [],_=>none
 | (x,y)::l,a=>sel (Nat.beq x a) (some y) (lookW l a)
structure Tb where
 add:List (Nat×Nat×Nat):=[]
 put:List (Nat×Nat×Bool×Nat):=[]
 flip:List (Nat×Nat):=[]
 copy:List (Nat×Nat):=[]
 Zbg:List Nat:=[]
 plain:List Nat:=[]
 Hx:List Nat:=[]
 CD:List Nat:=[]
 rows:List (Nat×List Int):=[]
 kinds:List (Nat×List Int):=[]
 Zbh:List (Nat×Nat×Bool):=[]
 kf:List (Nat×List Nat×List (List UInt8×Nat)):=[]
 chg:List (Nat×Nat×Nat×Nat):=[]
def glL (t:Tb):List (Nat×Orc):=[(112,Zhl (Hu t.add) (Pc t.put)),(113,Zda (Cy t.flip)),(40,Zda (Cy t.copy)),(172,T4 (CB true t.Zbg)),(161,T4 (CB true t.plain)),
 (183,T4 (CB false t.Hx)),(167,T4 (CB false t.CD)),(164,Zhj (Cz t.rows)),(162,Zkw 163 175 (Cz t.kinds)),
 (166,oOf (Hv t.Zbh)),(401,ES),(181,ZkC (lookW t.kf) (Hw t.chg))]
end
section
variable [Sig]
theorem Sf:∀ {l:List (Nat×Nat)} {a b:Nat},Cy l a=some b->(a,b)∈l
 | [],_,_,h=>by cases h
 | (x,y)::l,a,b,h=>by
  rcases Ze (show sel (Nat.beq x a) (some y) (Cy l a)=some b from h) with ⟨h1,h2⟩ | ⟨_,h2⟩
  ·cases h2; rw [Nat.eq_of_beq_eq_true h1]; exact List.mem_cons_self
  ·exact List.mem_cons_of_mem _ (Sf h2)
theorem Sg:∀ {l:List (Nat×Nat×Nat)} {a b c:Nat},Hu l a b=some c->(a,b,c)∈l
 | [],_,_,_,h=>by cases h
 | (x,y,z)::l,a,b,c,h=>by
  rcases Ze (show sel (Nat.beq x a) (sel (Nat.beq y b) (some z) (Hu l a b)) (Hu l a b)=some c from h) with ⟨h1,h2⟩ | ⟨_,h2⟩
  ·rcases Ze h2 with ⟨h3,h4⟩ | ⟨_,h4⟩
   ·cases h4; rw [Nat.eq_of_beq_eq_true h1,Nat.eq_of_beq_eq_true h3]; exact List.mem_cons_self
   ·exact List.mem_cons_of_mem _ (Sg h4)
  ·exact List.mem_cons_of_mem _ (Sg h2)
theorem Yn:∀ {l:List (Nat×Nat×Bool×Nat)} {a b:Nat} {c:Bool} {d:Nat},Pc l a b c=some d->(a,b,c,d)∈l
 | [],_,_,_,_,h=>by cases h
 | (x,y,z,u)::l,a,b,c,d,h=>by
  rcases Ze (show sel (Nat.beq x a) (sel (Nat.beq y b) (sel (Nj z c) (some u) (Pc l a b c)) (Pc l a b c)) (Pc l a b c)=some d from h) with ⟨h1,h2⟩ | ⟨_,h2⟩
  ·rcases Ze h2 with ⟨h3,h4⟩ | ⟨_,h4⟩
   ·rcases Ze h4 with ⟨h5,h6⟩ | ⟨_,h6⟩
    ·cases h6;rw [T8] at h5;rw [Nat.eq_of_beq_eq_true h1,Nat.eq_of_beq_eq_true h3,eq_of_beq h5]; exact List.mem_cons_self
    ·exact List.mem_cons_of_mem _ (Yn h6)
   ·exact List.mem_cons_of_mem _ (Yn h4)
  ·exact List.mem_cons_of_mem _ (Yn h2)
theorem Sh:∀ {l:List (Nat×List Int)} {a:Nat} {b:List Int},Cz l a=some b->(a,b)∈l
 | [],_,_,h=>by cases h
 | (x,y)::l,a,b,h=>by
  rcases Ze (show sel (Nat.beq x a) (some y) (Cz l a)=some b from h) with ⟨h1,h2⟩ | ⟨_,h2⟩
  ·cases h2; rw [Nat.eq_of_beq_eq_true h1]; exact List.mem_cons_self
  ·exact List.mem_cons_of_mem _ (Sh h2)
theorem Si:∀ {l:List (Nat×Nat×Nat×Nat)} {a b:Nat} {p:Nat×Nat},Hw l a b=some p->(a,b,p.1,p.2)∈l
 | [],_,_,_,h=>by cases h
 | (x,y,z,u)::l,a,b,p,h=>by
  rcases Ze (show sel (Nat.beq x a) (sel (Nat.beq y b) (some (z,u)) (Hw l a b)) (Hw l a b)=some p from h) with ⟨h1,h2⟩ | ⟨_,h2⟩
  ·rcases Ze h2 with ⟨h3,h4⟩ | ⟨_,h4⟩
   ·cases h4; rw [Nat.eq_of_beq_eq_true h1,Nat.eq_of_beq_eq_true h3]; exact List.mem_cons_self
   ·exact List.mem_cons_of_mem _ (Si h4)
  ·exact List.mem_cons_of_mem _ (Si h2)
theorem Hy:∀ {l:List (Nat×List Nat×List (List UInt8×Nat))} {a:Nat} {b:List Nat×List (List UInt8×Nat)},lookW l a=some b->(a,b)∈l
 | [],_,_,h=>by cases h
 | (x,y)::l,a,b,h=>by
  rcases Ze (show sel (Nat.beq x a) (some y) (lookW l a)=some b from h) with ⟨h1,h2⟩ | ⟨_,h2⟩
  ·cases h2; rw [Nat.eq_of_beq_eq_true h1]; exact List.mem_cons_self
  ·exact List.mem_cons_of_mem _ (Hy h2)
theorem Sj:∀ {l:List (Nat×Nat×Bool)} {a b:Nat} {c:Bool},Hv l a b=some c->(a,b,c)∈l
 | [],_,_,_,h=>by cases h
 | (x,y,z)::l,a,b,c,h=>by
  rcases Ze (show sel (Nat.beq x a) (sel (Nat.beq y b) (some z) (Hv l a b)) (Hv l a b)=some c from h) with ⟨h1,h2⟩ | ⟨_,h2⟩
  ·rcases Ze h2 with ⟨h3,h4⟩ | ⟨_,h4⟩
   ·cases h4; rw [Nat.eq_of_beq_eq_true h1,Nat.eq_of_beq_eq_true h3]; exact List.mem_cons_self
   ·exact List.mem_cons_of_mem _ (Sj h4)
  ·exact List.mem_cons_of_mem _ (Sj h2)
theorem JY {v:Bool} {l:List Nat} {a:Nat} {c:Bool} (h:CB v l a=some c):a∈l/\c=v:=by
 rcases Ze (show sel (WK a l) (some v) none=some c from h) with ⟨h1,h2⟩ | ⟨_,h2⟩
 ·cases h2; exact ⟨Wq.1 h1,rfl⟩
 ·cases h2
end
structure Zdv (M:Nat->Mn) (t:Tb):Prop where
 nz:M 0 = .nz
 add:∀ a b c,(a,b,c)∈t.add->∃ S S' bn,M a = .set S/\M b = .set S'/\M c = .set bn/\Sm bn/\∀ r,nf bn r=nf S r+nf S' r
 put:∀ a r b c,(a,r,b,c)∈t.put->∃ S l bn,M a = .set S/\M r = .row l/\M c = .set bn/\Sm bn/\∀ r,nf bn r=nf S r+if l=r then (if b then 1 else -1) else 0
 flip:∀ a c,(a,c)∈t.flip->∃ S S',M a = .set S/\M c = .set S'/\Sm S/\Sm S'/\∀ r,nf S' r = - nf S r
 copy:∀ a c,(a,c)∈t.copy->∃ S,M a = .set S/\M c = .set S/\Sm S
 Zbg:∀ a∈t.Zbg,∃ S,M a = .set S
 plain:∀ a∈t.plain,∃ S,M a = .set S/\∀ p∈S,0<=p.2
 Hx:∀ a∈t.Hx,∃ S,M a = .set S/\ZU (Zi S)<513
 CD:∀ a∈t.CD,∃ S,M a = .set S/\ZU (Zi S)<64
 rows:∀ a ks,(a,ks)∈t.rows->∃ l,M a = .row l/\l.map (·.k)=ks
 kinds:∀ a ks,(a,ks)∈t.kinds->∃ S,M a = .set S/\∀ p∈S,p.1.map (·.k)=ks
 Zbh:∀ a r b,(a,r,b)∈t.Zbh->∃ S l,M a = .set S/\M r = .row l/\(b=true↔Jj S l≠0) /\ -1000000<=Jj S l/\Jj S l<=1000000
 chg:∀ a kf d a' o,(a,kf)∈t.kf->(a,d,a',o)∈t.chg->∃ I D I' O,M a = .obj (Wo kf.1 (YH kf.2) I)/\M d = .set D/\M a' = .obj (Wo kf.1 (YH kf.2) I')/\M o = .set O/\T0 kf.1 (YH kf.2) I D I' O
 Xg:∀ a φ,M a = .obj φ -> ∀ F w o,φ F w o->∃ es c,o = .map es c
theorem ZkD [Sig] {M:Nat->Mn} (hM:Sig.Q4=QK M) (hO:Sig.Xg=Ks M) {t:Tb} (ok:Zdv M t):∀ x∈glL t,Qc prog x.1 x.2:=by
 intro x hx;simp only [glL,List.mem_cons,List.not_mem_nil,or_false] at hx;rcases hx with rfl | rfl | rfl | rfl | rfl | rfl | rfl | rfl | rfl | rfl | rfl | rfl
 ·exact Ut hM (fun a b c h=>ok.add a b c (Sg h)) (fun a r b c h=>ok.put a r b c (Yn h)) func112 (by kernel_rfl) rfl
 ·exact Uo hM (fun a c h=>ok.flip a c (Sf h)) func113 (by kernel_rfl) rfl
 ·exact Up hM (fun a c h=>ok.copy a c (Sf h)) func40 (by kernel_rfl) rfl
 ·exact Ck hM (fun a c h=>⟨(JY h).2,ok.Zbg a (JY h).1⟩) func172 (by kernel_rfl) rfl
 ·exact Cm hM (fun a c h=>⟨(JY h).2,ok.plain a (JY h).1⟩) func161 (by kernel_rfl) rfl
 ·exact Cn hM (fun a c h=>⟨(JY h).2,ok.Hx a (JY h).1⟩) func183 (by kernel_rfl) rfl
 ·exact Co hM (fun a c h=>⟨(JY h).2,ok.CD a (JY h).1⟩) func167 (by kernel_rfl) rfl
 ·exact Ur hM (fun a c h=>ok.rows a c (Sh h)) func164 (by kernel_rfl) rfl
 ·exact Zbc hM (fun a c h=>ok.kinds a c (Sh h)) func162 (by kernel_rfl) rfl (fun _ _=>call163 _ _) (fun _ _=>call175 _ _)
 ·exact Zdp hM ok.nz (fun a r b h=>ok.Zbh a r b (Sj h)) func166 (by kernel_rfl) rfl
 ·exact Fq func401 (by kernel_rfl) (by kernel_rfl) (by kernel_rfl) (by kernel_rfl) fun t F w o h=>by
   rw [hO] at h;unfold Ks at h;split at h
   ·rename_i φ hm;exact ok.Xg _ φ hm F w o h
   ·cases h
 ·exact Zbe hM hO (fun a d kf p h1 h2=>ok.chg a kf d p.1 p.2 (Hy h1) (Si h2)) func181 (by kernel_rfl) rfl
end Ev
end
namespace Ev
open Go
noncomputable section
def Zbi (n:Nat):Vc:=fun i=>some (i+n)
def upL (n:Nat):List (Nat×Zd)->Option (List (Nat×Zd))
 | []=>some []
 | (i,b)::l=>match RU (Zbi n) b,upL n l with
  | some b,some l=>some ((i+n,b)::l)
  | _,_=>none
def Zdw (s:St) (m:Nat) (v:Option Zb) (post:Option (List (Nat×Zd))):R:=match v,post with
 | some v,some post => .ok v ⟨Z8 post s.heap,s.next+m⟩
 | _,_ => .bad
def Zho:Vc:=fun _=>none
def Fs (l:List Zb) (o:Option (List Zb)):Bool:=match o with
 | some k=>JP l k
 | none=>false
def upR (args:List Zb) (s:St):List Ent->R
 | [] => .bad
 | e::l=>sel (Fs e.args (YM Zho args)) (Zdw s e.m (TG (Zbi s.next) e.v) (upL s.next e.post)) (upR args s l)
def upO (T:List Ent):Orc:=⟨fun args s=>upR args s T⟩
def CE (e:Ent):Bool:=match e.pre with
 | []=>sel (Nat.beq e.n 0) (Zbj e.S' e.post) false
 | _=>false
end
variable [Sig] {P:Program}
theorem EW {n:Nat}:∀ {l l':List (Nat×Zd)},upL n l=some l'->∀ {j:Nat} {b':Zd},(j,b')∈l'->∃ i b,j=i+n/\(i,b)∈l/\RU (Zbi n) b=some b'
 | [],l',h,j,b',hm=>by cases h; cases hm
 | (i,b)::l,l',h,j,b',hm=>by
  simp only [upL] at h;split at h
  ·rename_i c k h1 h2;cases h;rcases List.mem_cons.1 hm with hm | hm
   ·cases hm;exact ⟨i,b,rfl,List.mem_cons_self,h1⟩
   ·obtain ⟨i',b0,h3,h4,h5⟩:=EW h2 hm;exact ⟨i',b0,h3,List.mem_cons_of_mem _ h4,h5⟩
  ·cases h
theorem Zdx {e:Ent} (h:CE e=true):e.pre=[]/\e.n=0/\Zbj e.S' e.post=true:=by
 unfold CE at h;split at h
 ·rename_i hp;obtain ⟨h1,h2⟩:=ZF h;exact ⟨hp,ZE h1,h2⟩
 ·cases h
def Rho.up (r q:Rho) (n:Nat):Rho:=fun i=>if i<n then r i else q (i-n)
theorem uW {f:FuncId}:∀ {T:List Ent},(∀ e∈T,e.f=f/\CE e=true/\D3 P e)->Qc P f (upO T)
 | [],_=>fun args s v s' h=>by cases h
 | e::T,hT=>fun args s v s' h r w us hr hv=>by
  have h:sel (Fs e.args (YM Zho args)) (Zdw s e.m (TG (Zbi s.next) e.v) (upL s.next e.post)) (upR args s T) = .ok v s':=h;rcases Ze h with ⟨h1,h⟩ | ⟨_,h⟩
  ·obtain ⟨rfl,hfree,he⟩:=hT e List.mem_cons_self;obtain ⟨hp,hn,hall⟩:=Zdx hfree
   have hargs:VRs (fun _=>none) e.args us:=by
    unfold Fs at h1;split at h1
    ·rename_i k hk;rw [JZ _ _ h1];exact hv.ren (fun i j x hg _=>by cases hg) hk
    ·cases h1
   have hS:∀ i,e.S.get i=none:=fun i=>by
    unfold Ent.S;rw [hp];exact Tj i
   have lV:e.S.next=0:=hn;have h0:Rel (fun _=>none) e.S w:=⟨⟨fun i b x hb hx=>(by cases hx),fun i _=>hS i⟩,fun i j b c x y hb hc hx=>(by cases hx),fun i x hx=>(by cases hx),fun i x g hx=>(by cases hx)⟩
   unfold Zdw at h;split at h
   ·rename_i v1 post hv1 hpost;cases h;refine (he _ w us h0 hargs).mono fun u w' ⟨q,hx,aP⟩=>⟨r.up q s.next,?_,?_⟩
    ·have hS':∀ i b,(i,b)∈e.post->e.S'.get i=some b:=fun i b hm=>TM hall i b hm;have hfr:∀ k,k<w.heap.size->w'.heap[k]? = w.heap[k]? := fun k hk=>hx.frame k hk fun ⟨i,b,x,_,hx,_⟩=>(by cases hx)
     have uX:Ha q (Zbi s.next) (r.up q s.next):=fun i j x hg hxi=>by
      cases hg;show (if i+s.next<s.next then r (i+s.next) else q (i+s.next-s.next))=_;rw [if_neg (by omega),Nat.add_sub_cancel];exact hxi
     have low:∀ {i},i<s.next->(r.up q s.next) i=r i:=fun {i} hi=>if_pos hi
     have high:∀ {i},(r.up q s.next) (i+s.next)=q i:=fun {i}=>by
      show (if i+s.next<s.next then r (i+s.next) else q (i+s.next-s.next))=_;rw [if_neg (by omega),Nat.add_sub_cancel]
     have hle:r.le (r.up q s.next):=fun i x hi=>by rw [low (hr.known i x hi)]; exact hi
     have two:∀ i b,(⟨Z8 post s.heap,s.next+e.m⟩:St).get i=some b->(i<s.next/\s.get i=some b)\/∃ j b0,i=j+s.next/\e.S'.get j=some b0/\j<e.m/\RU (Zbi s.next) b0=some b:=fun i b hb=>by
      have hb:(Z8 post s.heap).get i=some b:=hb;rcases Nk post s.heap i b hb with h2 | h2
      ·obtain ⟨j,b0,rfl,h3,h4⟩:=EW hpost h2;have h5:=hS' j b0 h3;exact .inr ⟨j,b0,rfl,h5,hx.rel.below h5,h4⟩
      ·exact .inl ⟨hr.below h2,h2⟩
     have il:∀ {i b x},s.get i=some b->r i=some x->x.blk<w.heap.size:=fun {i b x} hb hx=>by
      obtain ⟨o,h2,_⟩:=hr.block i b x hb hx;exact (Array.getElem?_eq_some_iff.1 h2).1
     have eQ:∀ {j b x},e.S'.get j=some b->q j=some x->w.heap.size<=x.blk:=fun {j b x} hb hxj=>by
      rcases hx.XM x.blk ⟨j,b,x,hb,hxj,rfl⟩ with ⟨i,b',x',h2,_⟩ | h2
      ·rw [hS i] at h2; cases h2
      ·exact h2
     refine ⟨⟨⟨fun i b x hb hxi => ?_,fun i hi => ?_⟩,fun i j b c x y hb hc hxi hyj hxy => ?_,fun i x hxi => ?_,fun i x g hxi hg => ?_⟩,hle,by show s.next<=s.next+e.m; omega,hx.os,hx.tape,hx.output,hx.size,fun k hk _=>hfr k hk,fun i hi _ b hb => ?_,fun i hi hg => ?_,fun k ⟨i,b,x,hb,hxi,hk⟩ => ?_,fun i fM hq => ?_,fun k ⟨i,x,g,hxi,hg,hf,hl⟩ => ?_⟩
     ·rcases two i b hb with ⟨h2,h3⟩ | ⟨j,b0,rfl,h3,_,h4⟩
      ·rw [low h2] at hxi;obtain ⟨o,h5,h6⟩:=hr.block i b x h3 hxi;exact ⟨o,by rw [hfr _ (il h3 hxi)]; exact h5,h6.mono hle⟩
      ·rw [high] at hxi;obtain ⟨o,h5,h6⟩:=hx.rel.block j b0 x h3 hxi;exact ⟨o,h5,h6.ren uX h4⟩
     ·have hi:s.next+e.m<=i:=hi;cases hb:(⟨Z8 post s.heap,s.next+e.m⟩:St).get i with
      | none=>rfl
      | some b =>
       rcases two i b hb with ⟨h2,_⟩ | ⟨j,b0,rfl,_,h2,_⟩ <;> omega
     ·rcases two i b hb with ⟨h2,h3⟩ | ⟨i0,b0,rfl,h3,_,h4⟩ <;> rcases two j c hc with ⟨h5,h6⟩ | ⟨j0,c0,rfl,h6,_,h7⟩
      ·rw [low h2] at hxi;rw [low h5] at hyj;exact hr.apart i j b c x y h3 h6 hxi hyj hxy
      ·rw [low h2] at hxi;rw [high] at hyj;have:=il h3 hxi;have:=eQ h6 hyj;omega
      ·rw [high] at hxi;rw [low h5] at hyj;have:=eQ h3 hxi;have:=il h6 hyj;omega
      ·rw [high] at hxi hyj;rw [hx.rel.apart i0 j0 b0 c0 x y h3 h6 hxi hyj hxy]
     ·show i<s.next+e.m;by_cases hi:i<s.next
      ·omega
      ·have hxi:(if i<s.next then r i else q (i-s.next))=some x:=hxi;rw [if_neg hi] at hxi;have:i-s.next<e.m:=hx.rel.known _ x hxi;omega
     ·have XM:∀ k,Hit (r.up q s.next) ⟨Z8 post s.heap,s.next+e.m⟩ k->Hit r s k\/Hit q e.S' k:=fun k ⟨i,b,x,hb,hxi,hk⟩=>by
       rcases two i b hb with ⟨h2,h3⟩ | ⟨j,b0,rfl,h3,_,_⟩
       ·rw [low h2] at hxi;exact .inl ⟨i,b,x,h3,hxi,hk⟩
       ·rw [high] at hxi;exact .inr ⟨j,b0,x,h3,hxi,hk⟩
      have oZ:∀ k,Hit q e.S' k->w.heap.size<=k:=fun k ⟨j,b,x,hb,hxj,hk⟩=>hk▸eQ hb hxj;by_cases hi:i<s.next
      ·rw [low hi] at hxi
       exact (hr.safe i x g hxi hg).step hx.size (fun k hk _=>hfr k hk) fun k hk=>by
        rcases XM k hk with h1 | h1
        ·exact .inl h1
        ·exact .inr (oZ k h1)
      ·have hxi:(if i<s.next then r i else q (i-s.next))=some x:=hxi;rw [if_neg hi] at hxi;obtain ⟨h1,h2⟩:=hx.rel.safe _ x g hxi hg;refine ⟨h1,fun k hk hl=>⟨(h2 k hk hl).1,fun hh => ?_⟩⟩;rcases XM k hh with h3 | h3
       ·have h4:=hr.lt h3;rcases hx.Wa k ⟨_,x,g,hxi,hg,hk,hl⟩ with ⟨i',x',g',h5,_⟩ | h5
        ·cases h5
        ·omega
       ·exact (h2 k hk hl).2 h3
     ·rcases two i b hb with ⟨_,h3⟩ | ⟨j,b0,rfl,_⟩
      ·exact h3
      ·omega
     ·cases hb:(⟨Z8 post s.heap,s.next+e.m⟩:St).get i with
      | none=>rfl
      | some b =>
       rcases two i b hb with ⟨_,h3⟩ | ⟨j,b0,rfl,_⟩
       ·rw [hg] at h3; cases h3
       ·omega
     ·rcases two i b hb with ⟨h2,h3⟩ | ⟨j,b0,rfl,h3,_,_⟩
      ·rw [low h2] at hxi;exact .inl ⟨i,b,x,h3,hxi,hk⟩
      ·rw [high] at hxi;exact .inr (hk▸eQ h3 hxi)
     ·by_cases hi:i<s.next
      ·rw [low hi] at hq;exact absurd fM hq
      ·omega
     ·by_cases hi:i<s.next
      ·rw [low hi] at hxi;exact .inl ⟨i,x,g,hxi,hg,hf,hl⟩
      ·have hxi:(if i<s.next then r i else q (i-s.next))=some x:=hxi;rw [if_neg hi] at hxi;rcases hx.Wa k ⟨_,x,g,hxi,hg,hf,hl⟩ with ⟨i',x',g',h5,_⟩ | h5
       ·cases h5
       ·exact .inr h5
    ·exact aP.ren (fun i j x hg hxi=>by
      cases hg;show (if i+s.next<s.next then r (i+s.next) else q (i+s.next-s.next))=_;rw [if_neg (by omega),Nat.add_sub_cancel]
      exact hxi) hv1
   ·cases h
  ·exact uW (T:=T) (fun e he=>hT e (List.mem_cons_of_mem _ he)) args s v s' h r w us hr hv
end Ev
namespace Ev
open Go Go.Proofs
noncomputable section
def ME:FuncId->Bool:=fun f=>WK f [49,301,409,181]
def Wr (r:R) (k:Zb->St->Bool):Bool:=match r with
 | .ok v s=>k v s
 | .bad=>false
theorem Jc {r:R} {k:Zb->St->Bool} (h:Wr r k=true):∃ v s,r = .ok v s/\k v s=true:=by
 cases r with
 | bad=>cases h
 | ok v s=>exact ⟨v,s,rfl,h⟩
def ZkE:List Nat->List Nat->List (Nat×Nat)
 | j::J,i::L=>(j,i)::ZkE J L
 | _,_=>[]
def Zhp:List (Nat×Nat)->List (Nat×Nat)
 | []=>[]
 | (j,i)::l=>(i,j)::Zhp l
def uY (n:Nat):List Nat->List Nat:=@Nat.rec (fun _=>List Nat->List Nat) (fun l=>l) (fun k ih l=>ih (k::l)) n
def tgL:List (Nat×Nat)->Nat->Nat->Bool
 | [],_,_=>false
 | (x,y)::l,a,b=>sel (Nat.beq x a) (sel (Nat.beq y b) true (tgL l a b)) (tgL l a b)
structure Vd where
 z:Bool
 d:Int
 k:Int
 J:List Nat
 el:List (Nat×Nat)
 tg:List (Nat×Nat)
 te:List Nat
 LS:List (Nat×Zd)
 n:Nat
 tm:List Nat
def Vd.S (V:Vd):St:=⟨Z8 V.LS .lf,V.n⟩
def ZkF (V:Vd) (L:List (Nat×Nat)):Vw:=⟨V.z,V.d,V.k,Z8 L .lf,Z8 V.el .lf,tgL V.tg,fun b=>WK b V.te,fun b=>WK b V.tm⟩
def ZdA (V:Vd) (s:St) (v:Zb) (L:List (Nat×Nat)):Bool :=
 sel (Cu (ZkF V L) (Z8 (Zhp L) .lf) s.heap V.LS) (sel (Ti V.n L) (sel (Ti V.n V.el) (YQ (ZkF V L) v (.ptr 0 0)) false) false) false
def KP (V:Vd) (v:Zb) (s:St):Bool:=ZdA V s v (ZkE V.J (Ue [] v s))
end
theorem Yo:∀ {l:List (Nat×Nat)} {a b:Nat},tgL l a b=true->(a,b)∈l
 | [],_,_,h=>by cases h
 | (x,y)::l,a,b,h=>by
  have h:sel (Nat.beq x a) (sel (Nat.beq y b) true (tgL l a b)) (tgL l a b)=true:=h;cases h1:Nat.beq x a
  ·rw [h1] at h; exact List.mem_cons_of_mem _ (Yo h)
  ·rw [h1] at h;have h:sel (Nat.beq y b) true (tgL l a b)=true:=h;cases h2:Nat.beq y b
   ·rw [h2] at h; exact List.mem_cons_of_mem _ (Yo h)
   ·rw [Nat.eq_of_beq_eq_true h1,Nat.eq_of_beq_eq_true h2]; exact List.mem_cons_self
def Kn (S:Sig) (s:St) (T:Nat->Prop) (w:World) (L:List Zb) (U:List Value):Prop :=
 ∃ r,@Rel S r s w/\@VRs S r L U/\∀ k,Hit r s k\/JA r k->T k
theorem VE [Sig] {r:Rho} {a:Zb} {l:List Zb} {u:Value} {m:List Value}:VRs r (a::l) (u::m)↔VR r a u/\VRs r l m :=
 ⟨fun h=>by cases h with | cons h t=>exact ⟨h,t⟩,fun h => .cons h.1 h.2⟩
section
variable {S:Sig} {s s':St} {T T':Nat->Prop} {w w':World} {L L':List Zb} {U U':List Value}
theorem Kn.start (w:World):Kn S ⟨.lf,0⟩ T w [] [] :=
 ⟨fun _=>none,@Rel.mk S _ _ _ (@RelB.mk S _ _ _ (fun i b x hb hx=>(by cases hx)) fun i _=>Tj i) (fun i j b c x y hb hc hx=>(by cases hx)) (fun i x hx=>(by cases hx)) (fun i x g hx=>(by cases hx)),@VRs.nil S _,fun k h=>by
  rcases h with ⟨i,b,x,_,hx,_⟩ | ⟨i,x,g,hx,_⟩ <;> cases hx⟩
theorem Kn.Zf (h:Kn S s T w L U) (hc:Chg (fun _=>False) w w'):Kn S s T w' L U:=by
 obtain ⟨r,h1,h2,h3⟩:=h;exact ⟨r,@Rel.Zf S _ _ _ h1 _ hc,h2,h3⟩
theorem Kn.mono (h:Kn S s T w L U) (hT:∀ k,T k->k<w.heap.size->T' k):Kn S s T' w L U:=by
 obtain ⟨r,h1,h2,h3⟩:=h;refine ⟨r,h1,h2,fun k hk=>hT k (h3 k hk) ?_⟩;rcases hk with hk | ⟨i,x,g,h4,h5,h6,h7⟩
 ·exact @Rel.lt S _ _ _ h1 _ hk
 ·have:=(@Rel.safe S _ _ _ h1 i x g h4 h5).1;omega
theorem Kn.pick (h:Kn S s T w L U) (hL:∀ r,@VRs S r L U->@VRs S r L' U'):Kn S s T w L' U':=by
 obtain ⟨r,h1,h2,h3⟩:=h;exact ⟨r,h1,hL r h2,h3⟩
theorem Kn.call {B:YG} {f:FuncId} {args:List Zb} {us:List Value} {v:Zb} (h:Kn S s T w L U) (hB:@Xc S prog B) (az:∀ f id,B.reg f id=none) (hcall:Hg prog B ME 1000000 200 f args s = .ok v s')
  (he:∀ us W,(callFunc f us).run prog W = .ok (.enter f us) W) (hargs:∀ r,@VRs S r L U->@VRs S r args us) :
  Calls prog f ⟨us⟩ w fun e w'=>∃ u,e = .returned u/\Kn S s' (fun k=>T k\/w.heap.size<=k) w' (v::L) (u::U)/\Chg T w w':=by
 obtain ⟨r,h1,h2,h3⟩:=h;have hc:=@Wk S _ _ hB az Qu ME 1000000 200 f args s v s' hcall r w us h1 (hargs r h2);rcases hc with ⟨u,w',h4,_⟩ | ⟨_,h4⟩
 ·rw [he] at h4;cases h4
 ·refine h4.mono ?_;rintro e w' ⟨u,rfl,q,hx,hu⟩;refine ⟨u,rfl,⟨q,@Ext.rel S _ _ _ _ _ _ hx,@VRs.cons S _ _ _ _ _ hu (@VRs.mono S _ _ (@Ext.le S _ _ _ _ _ _ hx) _ _ h2),fun k hk => ?_⟩,?_⟩
  ·rcases hk with hk | hk
   ·rcases @Ext.XM S _ _ _ _ _ _ hx k hk with h5 | h5
    ·exact .inl (h3 k (.inl h5))
    ·exact .inr h5
   ·rcases @Ext.Wa S _ _ _ _ _ _ hx k hk with h5 | h5
    ·exact .inl (h3 k (.inr h5))
    ·exact .inr h5
  ·exact ⟨@Ext.os S _ _ _ _ _ _ hx,@Ext.tape S _ _ _ _ _ _ hx,@Ext.output S _ _ _ _ _ _ hx,@Ext.size S _ _ _ _ _ _ hx,fun k hk hn=>@Ext.frame S _ _ _ _ _ _ hx k hk fun hh=>hn (h3 k (.inl hh))⟩
theorem Kn.gho {t:Nat} {u:Value} {F:Nat->Prop} (h:Kn S s T w L U) (h1:u.oneCell'=true) (h2:∀ b,u ≠ .bool b) (hF:∀ k,F k->¬ T k) (hm:S.Q4 t F w u):Kn S s.Vz (fun k=>T k\/F k) w (.gho s.next t::L) (u::U):=by
 obtain ⟨r,k1,k2,k3⟩:=h;obtain ⟨q,q1,q2,q3,q4,q5⟩:=@Hs S _ _ _ k1 u F t h1 h2 (fun k hk hh=>hF k hk (k3 k (.inl hh))) hm;refine ⟨q,q1,@VRs.cons S _ _ _ _ _ q3 (@VRs.mono S _ _ q2 _ _ k2),fun k hk => ?_⟩;rcases hk with hk | hk
 ·exact .inl (k3 k (.inl (q4 k hk)))
 ·rcases q5 k hk with h5 | h5
  ·exact .inl (k3 k (.inr h5))
  ·exact .inr h5
theorem Kn.blk {k e:Nat} {cs:List Zb} {vs:List Value} {t:TypeId} (h:Kn S s T w L U) (hcs:∀ r,@VRs S r L U->@VRs S r cs vs) (ho:w.heap[k]? = some (.cells ⟨vs⟩ t (0,0))) (hn:¬ T k) (n:Nat) (he:n*e=vs.length) :
  Kn S (s.new (.cells cs e false)) (fun j=>T j\/j=k) w (.slice s.next 0 n none::L) (.slice (some ⟨k,0,none⟩) n n::U):=by
 obtain ⟨r,k1,k2,k3⟩:=h;obtain ⟨q,q1,q2,q3,q4,q5⟩:=@Ht S _ _ _ k1 k e cs vs t ho (hcs r k2) (fun hh=>hn (k3 k (.inl hh))) (fun hh=>hn (k3 k (.inr hh)));refine ⟨q,q1,@VRs.cons S _ _ _ _ _ (@VR.slice S q s.next 0 n none _ n q3 (Nat.le_refl _) (fun _ h=>by cases h) (fun _=>by show 0+n*e=vs.length; omega)) (@VRs.mono S _ _ q2 _ _ k2),fun j hj => ?_⟩;rcases hj with hj | hj
 ·rcases q4 j hj with h5 | h5
  ·exact .inl (k3 j (.inl h5))
  ·exact .inr h5
 ·exact .inl (k3 j (.inr (q5 j hj)))
theorem Kn.view {S':Sig} {V:Vd} {v:Zb} {u:Value} (h:Kn S s T w L U) (hv:∀ r,@VRs S r L U->@VR S r v u) (dU:KP V v s=true) (hz:V.z=true->S'.x=0) (hd:V.z=false->S'.x=S.x+V.d) (hk:S'.y=V.k)
  (jG:∀ a b,(a,b)∈V.tg->∀ F w v,S.Q4 a F w v->S'.Q4 b F w v) (hte:∀ b∈V.te,∀ w,S'.Q4 b (fun _=>False) w (.slice none 0 0)) (hto:∀ a b,(a,b)∈V.tg->∀ F w o,S.Xg a F w o->S'.Xg b F w o) (kR:∀ b∈V.tm,∀ w c,S'.Xg b (fun _=>False) w (.map #[] c)):Kn S' V.S T w [.ptr 0 0] [u]:=by
 obtain ⟨r,k1,k2,k3⟩:=h;obtain ⟨c1,dU⟩:=ZF (show sel _ (sel _ (sel _ _ false) false) false=true from dU);obtain ⟨c2,dU⟩:=ZF dU;obtain ⟨c3,c4⟩:=ZF dU;obtain ⟨o1,o2,o3,o4⟩:=Cw (S:=S) (S':=S') k1 rfl rfl c1 c2 c3 hz hd hk (fun a b h=>jG a b (Yo h)) (fun b h=>hte b (Wq.1 h) w) (fun a b h=>hto a b (Yo h)) (fun b h=>kR b (Wq.1 h) w);exact ⟨_,o2,@VRs.cons S' _ _ _ _ _ (Sd o1 _ _ _ c4 (hv r k2)) (@VRs.nil S' _),fun k hk=>k3 k (hk.imp (o3 k) (o4 k))⟩
theorem Kn.set {i t:Nat} {u:Value} {M:Nat->Mn} (h:Kn S s T w L U) (hM:S.Q4=QK M) (hv:∀ r,@VRs S r L U->@VR S r (.gho i t) u) {A:Zs} (hA:M t = .set A):Sm A/\Zp T w u (Zi A):=by
 obtain ⟨r,k1,k2,k3⟩:=h;obtain ⟨h1,h2⟩:=@XG S _ _ _ _ hM k1 i t u (hv r k2) A hA;exact ⟨h1,h2.mono fun b hb _=>k3 b (.inr hb)⟩
end
noncomputable abbrev ZdB (M:Nat->Mn) (h:M 0 = .nz) (x y:Int) (hx:0<=x/\x<=1000) (hy:0<=y/\y<=1000):Sig:=⟨x,y,hx,hy,fun _=>0,QK M,Ks M,ZfJ h⟩
end Ev
end Go.Proofs.YtheflbaejhlboaaGreatDoor
