/- Lemmas for a law of confluencetop. -/
import Derived.Test.YtheflbaejhlboaaGreatDoorTopTx13
set_option linter.all false
namespace Go.Proofs.YtheflbaejhlboaaGreatDoor
open Tryz
section
open Go
theorem T7 (S:List (List Vl×Int)) (r:List Vl):nf (Xi S) r = - nf S r:=by
 induction S with
 | nil=>rfl
 | cons p S ih =>
  show nf ((p.1,-p.2)::Xi S) r=_;rw [nf,nf,ih];split <;> omega
theorem He (S:List (List Vl×Int)):ZW (Zl (Xi S))=ZW (Zl S):=by
 induction S with
 | nil=>rfl
 | cons p S ih =>
  show ZW (ZA (p.1,-p.2)::Zl (Xi S))=ZW (ZA p::Zl S);rw [ZW,ZW,ih];unfold ZA;simp only;omega
theorem Sm.flip {S:List (List Vl×Int)} (h:Sm S):Sm (Xi S) where
 set:=by
  refine ⟨fun p hp => ?_,fun p hp => ?_,?_⟩
  ·obtain ⟨q,hq,rfl⟩:=List.mem_map.1 hp;exact h.set.row q hq
  ·obtain ⟨q,hq,rfl⟩:=List.mem_map.1 hp;have:=h.set.net q hq;simp only;omega
  ·unfold Xi;rw [List.pairwise_map];exact h.set.ord
 few:=by unfold Xi; rw [List.length_map]; exact h.few
 sum:=by rw [He]; exact h.sum
theorem Se (lim:Int):∀ (l:List Itm) (n:Int),n+ZW l<lim->Kl lim l n=false
 | [],_,_=>rfl
 | x::l,n,h=>by
  rw [ZW] at h;have hx:x.net<=(x.a:Int):=by unfold Itm.net; omega
  rw [Kl,if_neg (by omega)];exact Se lim l _ (by omega)
namespace Ev
noncomputable section
def Zkb (s:St) (o:Option Bool):R:=match o with
 | some b => .ok (.bool b) s
 | none => .bad
def uV (T:Nat->Option Bool) (args:List Zb) (s:St):R:=match args with
 | [.gho _ a]=>Zkb s (T a)
 | _ => .bad
def T8 (T:Nat->Option Bool):Orc:=⟨uV T⟩
end
section
variable [Sig] {M:Nat->Mn} (hM:Sig.Q6=QL M)
theorem Ext.same {r:Rho} {s:St} {w w':World} (hr:Rel r s w) (hc:Chg (fun _=>False) w w'):Ext r s w r s w' :=
 (Ext.refl hr).grow (fun k hk=>hc.block k hk fun h=>h) hc.size hc.os hc.tape hc.output
include hM
theorem Hf {f:FuncId} {T:Nat->Option Nat} (hT:∀ a c,T a=some c->∃ S S',M a = .set S/\M c = .set S'/\Sm S' /\
   ∀ (F:Nat->Prop) (w:World) (v:Value),Sm S->Zo F w v (Zl S)->Calls prog f #[v] w (Neu w fun u w'=>Zo (new w) w' u (Zl S')))
  {fn:Func} {b:Code} (hf:prog.funcs[f]? = some fn) (hname:(fn.name== "runtime.NumGoroutine")=false) (hb:fn.body=some b):Qc prog f (Zc1 T):=by
 intro args s v s' h r w us hr hv;have h:uz T args s = .ok v s':=h;unfold uz at h;split at h
 ·rename_i i a _;cases hv with
  | cons hx ht =>
   cases ht;cases hc:T a with
   | none=>rw [hc] at h; cases h
   | some c =>
    rw [hc] at h;cases h;obtain ⟨S,S',m1,m2,hs,hcall⟩:=hT a c hc;obtain ⟨z1,a1⟩:=XJ hM hr hx m1;refine Xf hf hname hb ((hcall _ _ _ z1 a1).mono ?_);rintro _ w' ⟨u,rfl,h4,h5⟩;obtain ⟨q,e1,e2⟩:=PY hM hr h5 (fun k hk _ => .inr hk) m2 hs h4;exact ⟨_,rfl,q,e1,e2⟩
 ·cases h
theorem WT {f:FuncId} {T:Nat->Option Bool} (hT:∀ a c,T a=some c->∃ S,M a = .set S /\
   ∀ (F:Nat->Prop) (w:World) (v:Value),Sm S->Zo F w v (Zl S)->Calls prog f #[v] w fun e w'=>e = .returned (.bool c)/\Chg (fun _=>False) w w')
  {fn:Func} {b:Code} (hf:prog.funcs[f]? = some fn) (hname:(fn.name== "runtime.NumGoroutine")=false) (hb:fn.body=some b):Qc prog f (T8 T):=by
 intro args s v s' h r w us hr hv;have h:uV T args s = .ok v s':=h;unfold uV at h;split at h
 ·rename_i i a _;cases hv with
  | cons hx ht =>
   cases ht;cases hc:T a with
   | none=>rw [hc] at h; cases h
   | some c =>
    rw [hc] at h;cases h;obtain ⟨S,m1,hcall⟩:=hT a c hc;obtain ⟨z1,a1⟩:=XJ hM hr hx m1;refine Xf hf hname hb ((hcall _ _ _ z1 a1).mono ?_);rintro _ w' ⟨rfl,h5⟩;exact ⟨_,rfl,r,Ext.same hr h5,.bool _⟩
 ·cases h
theorem Ug {T:Nat->Option Nat} (hT:∀ a c,T a=some c->∃ S S',M a = .set S/\M c = .set S'/\Sm S/\Sm S'/\∀ r,nf S' r = - nf S r)
  {fn:Func} {b:Code} (hf:prog.funcs[113]? = some fn) (hname:(fn.name== "runtime.NumGoroutine")=false) (hb:fn.body=some b):Qc prog 113 (Zc1 T) :=
 Hf hM (fun a c h=>by
  obtain ⟨S,S',m1,m2,hs1,hs,h1⟩:=hT a c h;have e:S'=Xi S:=ZP.uniq hs.set hs1.flip.set fun r=>by rw [h1,T7]
  exact ⟨S,S',m1,m2,hs,fun F w v hz ha=>by subst e; exact Cc ha hz.zr (by have:=hz.few; omega)⟩) hf hname hb
theorem Uh {T:Nat->Option Nat} (hT:∀ a c,T a=some c->∃ S,M a = .set S/\M c = .set S/\Sm S)
  {fn:Func} {b:Code} (hf:prog.funcs[40]? = some fn) (hname:(fn.name== "runtime.NumGoroutine")=false) (hb:fn.body=some b):Qc prog 40 (Zc1 T) :=
 Hf hM (fun a c h=>by
  obtain ⟨S,m1,m2,hs⟩:=hT a c h
  exact ⟨S,S,m1,m2,hs,fun F w v hz ha=>Dr ha (by rw [Zu]; have:=hz.few; omega)⟩) hf hname hb
theorem Cd {T:Nat->Option Bool} (hT:∀ a c,T a=some c->c=true/\∃ S,M a = .set S)
  {fn:Func} {b:Code} (hf:prog.funcs[172]? = some fn) (hname:(fn.name== "runtime.NumGoroutine")=false) (hb:fn.body=some b):Qc prog 172 (T8 T) :=
 WT hM (fun a c h=>by
  obtain ⟨rfl,S,m1⟩:=hT a c h
  exact ⟨S,m1,fun F w v hz ha=>J7 ha hz.zr⟩) hf hname hb
theorem Ce {T:Nat->Option Bool} (hT:∀ a c,T a=some c->c=true/\∃ S,M a = .set S/\∀ p∈S,0<=p.2)
  {fn:Func} {b:Code} (hf:prog.funcs[161]? = some fn) (hname:(fn.name== "runtime.NumGoroutine")=false) (hb:fn.body=some b):Qc prog 161 (T8 T) :=
 WT hM (fun a c h=>by
  obtain ⟨rfl,S,m1,h1⟩:=hT a c h
  exact ⟨S,m1,fun F w v hz ha=>TD ha hz.zr h1⟩) hf hname hb
theorem Cf {T:Nat->Option Bool} (hT:∀ a c,T a=some c->c=false/\∃ S,M a = .set S/\ZW (Zl S)<513)
  {fn:Func} {b:Code} (hf:prog.funcs[183]? = some fn) (hname:(fn.name== "runtime.NumGoroutine")=false) (hb:fn.body=some b):Qc prog 183 (T8 T) :=
 WT hM (fun a c h=>by
  obtain ⟨rfl,S,m1,h1⟩:=hT a c h
  exact ⟨S,m1,fun F w v hz ha=>by
   have h2:=Dq ha (by rw [Zu]; have:=hz.few; omega);rw [Se _ _ _ (by omega)] at h2
   exact h2⟩) hf hname hb
theorem Cg {T:Nat->Option Bool} (hT:∀ a c,T a=some c->c=false/\∃ S,M a = .set S/\ZW (Zl S)<64)
  {fn:Func} {b:Code} (hf:prog.funcs[167]? = some fn) (hname:(fn.name== "runtime.NumGoroutine")=false) (hb:fn.body=some b):Qc prog 167 (T8 T) :=
 WT hM (fun a c h=>by
  obtain ⟨rfl,S,m1,h1⟩:=hT a c h
  exact ⟨S,m1,fun F w v hz ha=>by
   have h2:=Dp ha (by rw [Zu]; have:=hz.few; omega);rw [Se _ _ _ (by omega)] at h2
   exact h2⟩) hf hname hb
end
end Ev
end
section
open Go.RowKit
def PE:List (List UInt8)->List (List UInt8)
 | []=>[]
 | x::l=>if x∈l then PE l else x::PE l
theorem XR {k:List UInt8}:∀ {l:List (List UInt8)},k∈PE l↔k∈l
 | []=>Iff.rfl
 | x::l=>by
  rw [PE];split
  ·rename_i h;rw [XR,List.mem_cons];exact ⟨.inr,fun h2=>h2.elim (fun e=>e▸h) id⟩
  ·rw [List.mem_cons,List.mem_cons,XR]
theorem JP:∀ l:List (List UInt8),(PE l).Nodup
 | []=>List.nodup_nil
 | x::l=>by
  rw [PE];split
  ·exact JP l
  ·rename_i h;exact List.nodup_cons.2 ⟨fun h2=>h (XR.1 h2),JP l⟩
theorem Ch:∀ l:List (List UInt8),(PE l).length<=l.length
 | []=>Nat.le_refl _
 | x::l=>by
  rw [PE];have:=Ch l;split
  ·exact Nat.le_succ_of_le this
  ·simpa using this
def QZ (ks:List Nat) (T:ZS):List (List UInt8):=PE (T.map fun p=>nmR ks p.1)
theorem Hg {ks:List Nat} {T:ZS} {k:List UInt8}:k∈QZ ks T↔∃ p∈T,nmR ks p.1=k:=by
 unfold QZ;rw [XR,List.mem_map]
theorem Ym {ks:List Nat} {T:ZS} {k:List UInt8}:Qf ks T k=[]↔k∉QZ ks T:=by
 rw [Hg];constructor
 ·rintro h ⟨p,hp,e⟩;have:p∈Qf ks T k:=Z2.2 ⟨hp,e⟩;rw [h] at this;cases this
 ·intro h;refine List.eq_nil_iff_forall_not_mem.2 fun p hp => ?_;obtain ⟨h1,h2⟩:=Z2.1 hp;exact h ⟨p,h1,h2⟩
def it1 (ks:List Nat) (fs:List (ByteArray×Nat)) (T:ZS) (k:List UInt8):List Itm:=if Qf ks T k=[] then [] else [⟨Qo ks fs T k,1,0⟩]
def WU (ks:List Nat) (fs:List (ByteArray×Nat)) (T:ZS):ZS:=(QZ ks T).foldl (fun S k=>Qi (Qo ks fs T k) 1 S) []
theorem M7 {L N:List (List UInt8)} (hL:L.Nodup) (hN:N.Nodup) (h:∀ k∈N,k∈L):L.Perm (N++L.filter fun k=>decide (k∉N)):=by
 refine (List.perm_ext_iff_of_nodup hL ?_).2 fun k => ?_
 ·rw [List.nodup_append];refine ⟨hN,hL.filter _,fun a ha b hb e => ?_⟩;subst e;have:=(List.mem_filter.1 hb).2;simp at this;exact this ha
 ·rw [List.mem_append,List.mem_filter];by_cases hk:k∈N
  ·simp [hk,h k hk]
  ·simp [hk]
theorem M8 (f:List UInt8->List Itm) (r:List Vl):∀ L:List (List UInt8),(∀ k∈L,Qv (f k) r=0)->Qv (L.flatMap f) r=0
 | [],_=>rfl
 | k::L,h=>by
  rw [List.flatMap_cons,Qe,h k List.mem_cons_self,M8 f r L fun x hx=>h x (List.mem_cons_of_mem _ hx)];rfl
theorem YR (f g d:List UInt8->List Itm) (r:List Vl):∀ L:List (List UInt8),(∀ k∈L,Qv (f k) r=Qv (g k) r+Qv (d k) r)->Qv (L.flatMap f) r=Qv (L.flatMap g) r+Qv (L.flatMap d) r
 | [],_=>rfl
 | k::L,h=>by
  rw [List.flatMap_cons,List.flatMap_cons,List.flatMap_cons,Qe,Qe,Qe,h k List.mem_cons_self,YR f g d r L fun x hx=>h x (List.mem_cons_of_mem _ hx)];omega
theorem Sf {f:List UInt8->List Itm} {L N:List (List UInt8)} (hL:L.Nodup) (hN:N.Nodup) (h:∀ k∈N,k∈L) (r:List Vl) (h0:∀ k∈L,k∉N->Qv (f k) r=0):Qv (L.flatMap f) r=Qv (N.flatMap f) r:=by
 have h1:=M8 f r (L.filter fun k=>decide (k∉N)) fun k hk=>by
  obtain ⟨h1,h2⟩:=List.mem_filter.1 hk;exact h0 k h1 (by simpa using h2)
 rw [Sg (List.Perm.flatMap_right f (M7 hL hN h)) r,List.flatMap_append,Qe,h1];omega
theorem M9 (t:List UInt8->List Vl) (r:List Vl):∀ (L:List (List UInt8)) (S:Zs),nf (L.foldl (fun S k=>Qi (t k) 1 S) S) r=nf S r+Qv (L.flatMap fun k=>[⟨t k,1,0⟩]) r
 | [],S=>by simp [Qv]
 | k::L,S=>by
  rw [List.foldl_cons,M9 t r L,Xh,List.flatMap_cons,Qe];have:Qv [(⟨t k,1,0⟩:Itm)] r=if t k=r then 1 else 0:=by simp [Qv,Itm.net]
  rw [this];omega
theorem YS (t:List UInt8->List Vl):∀ (L:List (List UInt8)) {S:Zs} {n:Nat},(∀ k∈L,Zk (t k)=true)->Bd n S->Bd (n+L.length) (L.foldl (fun S k=>Qi (t k) 1 S) S)
 | [],S,n,_,h=>h
 | k::L,S,n,hr,h=>by
  rw [List.foldl_cons];have:=YS t L (n:=n+1) (fun x hx=>hr x (List.mem_cons_of_mem _ hx)) (h.Qi (hr k List.mem_cons_self) (.inl rfl));rw [List.length_cons,show n+(L.length+1)=n+1+L.length by omega];exact this
theorem ED (ks:List Nat) (fs:List (ByteArray×Nat)) (T:ZS) (r:List Vl):nf (WU ks fs T) r=Qv ((QZ ks T).flatMap (it1 ks fs T)) r:=by
 unfold WU;rw [M9]
 have:((QZ ks T).flatMap fun k=>[(⟨Qo ks fs T k,1,0⟩:Itm)])=(QZ ks T).flatMap (it1 ks fs T):=by
  have key:∀ L:List (List UInt8),(∀ k∈L,k∈QZ ks T)->(L.flatMap fun k=>[(⟨Qo ks fs T k,1,0⟩:Itm)])=L.flatMap (it1 ks fs T):=by
   intro L
   induction L with
   | nil=>intro _; rfl
   | cons k L ih =>
    intro h;have h1:it1 ks fs T k=[⟨Qo ks fs T k,1,0⟩]:=if_neg fun e=>(Ym.1 e) (h k List.mem_cons_self)
    rw [List.flatMap_cons,List.flatMap_cons,ih fun x hx=>h x (List.mem_cons_of_mem _ hx),h1]
  exact key _ fun _ h=>h
 rw [this];show 0+_=_;omega
def Vb (A:Zs):Zs->Zs
 | []=>A
 | p::B=>Qi p.1 p.2 (Vb A B)
theorem Na (A:Zs) (r:List Vl):∀ B:Zs,nf (Vb A B) r=nf A r+nf B r
 | []=>by show _=_+(0:Int); rw [Vb]; omega
 | p::B=>by rw [Vb,Xh,Na A r B,nf]; omega
theorem Ci {A:Zs} (hA:ZP A):∀ {B:Zs},ZP B->ZP (Vb A B)
 | [],_=>hA
 | p::B,h=>PZ (h.row p List.mem_cons_self) (h.net p List.mem_cons_self) (Ci hA h.tail)
theorem Hh (A:Zs):∀ B:Zs,(Vb A B).length<=A.length+B.length
 | []=>Nat.le_refl _
 | p::B=>by
  have h1:=M6 p.1 p.2 (Vb A B);have h2:=Hh A B;rw [Vb,List.length_cons];omega
theorem Nb (A:Zs):∀ B:Zs,ZW (Zl (Vb A B))<=ZW (Zl A)+ZW (Zl B)
 | []=>Nat.le_refl _
 | p::B=>by
  have h1:=Sc p.1 p.2 (Vb A B);have h2:=Nb A B;rw [Vb,JW];omega
def Lr (ks:List Nat) (fs:List (ByteArray×Nat)) (T T':ZS):Zs:=Vb (Xi (WU ks fs T)) (WU ks fs T')
section
variable {ks:List Nat} {fs:List (ByteArray×Nat)} {T:ZS} (h:FIn ks fs T) (hr:∀ k,Qf ks T k≠[]->Zk (Qo ks fs T k)=true) {n:Nat} (hn:(QZ ks T).length<=n)
include hr hn
theorem Zfv:Bd n (WU ks fs T):=by
 have h1:=YS (Qo ks fs T) (QZ ks T) (S:=[]) (n:=0) (fun k hk=>hr k fun e=>Ym.1 e hk) Bd.nil;rw [Nat.zero_add] at h1;exact h1.mono hn
end
theorem Zfw {ks:List Nat} {fs:List (ByteArray×Nat)} {T T':ZS} {Dn:List (List UInt8)} (hD:Dn.Nodup) (hs:∀ k,k∉Dn->Qf ks T' k=Qf ks T k) (r:List Vl) :
  nf (Lr ks fs T T') r=Qv (Dn.flatMap (Q7 (Qf ks T) (Qf ks T') (Qo ks fs T) (Qo ks fs T'))) r:=by
 unfold Lr;rw [Na,T7,ED,ED];have hL:=JP (QZ ks T++(QZ ks T'++Dn))
 have e1:=Sf (f:=it1 ks fs T) (N:=QZ ks T) hL (JP _) (fun k hk=>XR.2 (List.mem_append_left _ hk)) r fun k _ hk=>by
  unfold it1; rw [if_pos (Ym.2 hk)]; rfl
 have e2:=Sf (f:=it1 ks fs T') (N:=QZ ks T') hL (JP _) (fun k hk=>XR.2 (List.mem_append_right _ (List.mem_append_left _ hk))) r fun k _ hk=>by
  unfold it1; rw [if_pos (Ym.2 hk)]; rfl
 have hit:∀ k,Qv (it1 ks fs T' k) r=Qv (it1 ks fs T k) r+Qv (Q7 (Qf ks T) (Qf ks T') (Qo ks fs T) (Qo ks fs T') k) r:=fun k=>by
  unfold it1 Q7;rw [Qe];by_cases h1:Qf ks T k=[] <;> by_cases h2:Qf ks T' k=[] <;> simp only [h1,h2,if_true,if_false,Qv,Itm.net,reduceCtorEq] <;> (repeat' split) <;> omega
 have e3:=Sf (f:=Q7 (Qf ks T) (Qf ks T') (Qo ks fs T) (Qo ks fs T')) hL hD (fun k hk=>XR.2 (List.mem_append_right _ (List.mem_append_right _ hk))) r fun k _ hk=>by
  have h1:=hit k
  have h2:it1 ks fs T' k=it1 ks fs T k:=by
   have h3:Qo ks fs T' k=Qo ks fs T k:=by unfold Qo; rw [hs k hk]
   unfold it1;rw [hs k hk,h3]
  rw [h2] at h1;omega
 have e4:=YR (it1 ks fs T') (it1 ks fs T) (Q7 (Qf ks T) (Qf ks T') (Qo ks fs T) (Qo ks fs T')) r (PE (QZ ks T++(QZ ks T'++Dn))) fun k _=>hit k;rw [e1,e2,e3] at e4;omega
end
section
open Go.RowKit
theorem Cj {a b:List Vl} (ha:Zk a=true) (hb:Zk b=true):KT a b=decide (a=b):=by
 unfold KT;rw [ha,hb,Bool.true_and,Bool.true_and];have:=QX (ZZ ha) (ZZ hb);by_cases h:a=b
 ·rw [decide_eq_true h,decide_eq_true (this.2 h)]
 ·simp [h];exact fun h2=>h (this.1 h2)
theorem Ck {S:List (List Vl×Int)} (h:ZP S) {r:List Vl} (hr:Zk r=true):Jj S r=nf S r:=by
 induction S with
 | nil=>rfl
 | cons p S ih =>
  rw [Jj,Cj (h.row p (by simp)) hr];by_cases e:p.1=r
  ·subst e;simp only [decide_true,if_true];exact h.Yn.symm
  ·simp only [e,decide_false,Bool.false_eq_true,if_false];rw [ih h.tail,nf,if_neg e,Int.zero_add]
theorem Sm.net {S:List (List Vl×Int)} (h:Sm S) (r:List Vl) : -1000000<=Jj S r/\Jj S r<=1000000:=by
 have hs:=h.sum
 have key:∀ (l:List (List Vl×Int)) (B:Nat),ZW (Zl l)<=B -> -(B:Int)<=Jj l r/\Jj l r<=(B:Int):=by
  intro l
  induction l with
  | nil=>intro B _; simp [Jj]
  | cons p l ih =>
   intro B hB;have hB:(ZA p).a+(ZA p).b+ZW (Zl l)<=B:=hB;have h1:(ZA p).a=p.2.toNat/\(ZA p).b=(-p.2).toNat:=⟨rfl,rfl⟩
   rw [h1.1,h1.2] at hB;rw [Jj];split
   ·omega
   ·exact ih B (by omega)
 have:=key S 1000000 hs;omega
structure Ui (R:List Vl->Prop) (ks:List Nat) (fs:List (ByteArray×Nat)) (KS:List (List UInt8)):Prop where
 su:∀ r,R r->T2 ks fs r
 rn:∀ r,R r->Zfu r
 big:∀ r,R r->∀ v∈r,-1000<=v.n/\v.n<=1000
 nm:∀ r,R r->nmR ks r∈KS
 few:KS.length<=10
 n0:0<ks.length+fs.length
 n6:ks.length+fs.length<=6
structure Jo (R:List Vl->Prop) (k:Nat) (T:Zs):Prop where
 t:Bd k T
 pos:∀ p∈T,0<=p.2
 row:∀ p∈T,R p.1
def sd (b:Bool):Int:=if b then 1 else -1
theorem Zc6 (b:Bool):sd b=1\/sd b = -1:=by cases b <;> simp [sd]
theorem Zkc (b:Bool):sd b≠0:=by cases b <;> simp [sd]
theorem Pd:∀ S:Zs,Zq (Zl S)<=ZW (Zl S)
 | []=>by simp [Zl,Zq,ZW]
 | p::S=>by
  have ih:=Pd S;have h1:Zq (Zl (p::S))=(ZA p).net+Zq (Zl S):=rfl;have h2:ZW (Zl (p::S))=(ZA p).a+(ZA p).b+ZW (Zl S):=rfl;rw [h1,h2,Wo];simp only [ZA];omega
section
variable {R:List Vl->Prop} {ks:List Nat} {fs:List (ByteArray×Nat)} {KS:List (List UInt8)} (ok:Ui R ks fs KS) {k:Nat} {T:Zs} (h:Jo R k T)
include ok h
theorem Jo.fin (hk:k<=40):FIn ks fs T where
 sm:=h.t.sm (by omega)
 pos:=fun p hp=>by
  have h1:=h.pos p hp;have h2:=h.t.set.net p hp;omega
 rn:=fun p hp=>ok.rn p.1 (h.row p hp)
 su:=fun p hp=>ok.su p.1 (h.row p hp)
 few:=by
  have h1:=Pd T;have h2:=h.t.sum;omega
 big:=fun p hp=>ok.big p.1 (h.row p hp)
theorem Jo.step {b:Bool} {x:List Vl} (hx:R x) (hb:b=false->1<=nf T x):Jo R (k+1) (Qi x (sd b) T) where
 t:=h.t.Qi (ok.su x hx).2.2 (Zc6 b)
 pos:=Zc4 h.t.set h.pos (ok.su x hx).2.2 (Zkc b) (by
  cases b
  ·have h1:1<=nf T x:=hb rfl;simp only [sd]; simp; omega
  ·have:=Uf h.pos x
   simp only [sd]; simp; omega)
 row:=fun p hp=>(M5 hp).elim (fun e=>e▸hx) fun ⟨q,h1,h2⟩=>h2▸h.row q h1
theorem Jo.names:(QZ ks T).length<=10:=by
 have h1:=M7 (N:=QZ ks T) (JP KS) (JP _) fun k hk=>by
  obtain ⟨p,hp,e⟩:=Hg.1 hk;exact XR.2 (e▸ok.nm p.1 (h.row p hp))
 have h2:=h1.length_eq;rw [List.length_append] at h2;have h3:=Ch KS;have h4:=ok.few;omega
theorem Jo.Zh4 (hk:k<=40) (key:List UInt8) (hg:Qf ks T key≠[]):Zk (Qo ks fs T key)=true:=by
 have hi:=h.fin ok hk;have hc:T5 ks fs T [] T []:=⟨hi,hi,ok.n0,ok.n6,Bd.nil.sm (by omega),fun p hp=>(by cases hp),fun p hp=>(by cases hp),List.nodup_nil,fun r=>(by simp [nf]),⟨KS,fun p hp=>ok.nm p.1 (h.row p hp),(by have:=ok.few; simp only [List.length_nil]; omega)⟩,Bd.nil.sm (by omega),fun r=>rfl⟩
 exact VC hc hi hg
theorem Jo.out (hk:k<=40):Bd 10 (WU ks fs T) :=
 Zfv (h.Zh4 ok hk) (h.names ok)
end
section
variable {R:List Vl->Prop} {ks:List Nat} {fs:List (ByteArray×Nat)} {KS:List (List UInt8)} (ok:Ui R ks fs KS) {k:Nat} {T:Zs} (h:Jo R k T) {b:Bool} {x:List Vl} (hx:R x) (hb:b=false->1<=nf T x) (hk:k+1<=40)
include ok h hx hb hk
theorem Jo.Zkd:Bd 20 (Lr ks fs T (Qi x (sd b) T)):=by
 have h1:=(h.out ok (by omega))
 have h2:=((h.step ok hx hb).out ok hk)
 have l1:(Xi (WU ks fs T)).length=(WU ks fs T).length:=by simp [Xi]
 refine ⟨Ci (h1.sm (by omega)).flip.set h2.set,?_,?_⟩
 ·have:=Hh (Xi (WU ks fs T)) (WU ks fs (Qi x (sd b) T));have a1:=h1.len;have a2:=h2.len;unfold Lr;omega
 ·have:=Nb (Xi (WU ks fs T)) (WU ks fs (Qi x (sd b) T));have a1:=h1.sum;have a2:=h2.sum;rw [He] at this;unfold Lr;omega
theorem Jo.chg:T5 ks fs T [(x,sd b)] (Qi x (sd b) T) (Lr ks fs T (Qi x (sd b) T)) where
 i:=h.fin ok (by omega)
 i':=(h.step ok hx hb).fin ok hk
 n0:=ok.n0
 n6:=ok.n6
 d:=(Hc (ok.su x hx).2.2 (Zc6 b)).sm (by omega)
 dn:=fun p hp=>by rw [List.mem_singleton.1 hp]; exact ok.rn x hx
 ds:=fun p hp=>by rw [List.mem_singleton.1 hp]; exact ok.su x hx
 nd:=by simp
 ad:=fun r=>by rw [Xh,Sd]
 KS:=⟨KS,fun p hp=>ok.nm p.1 (h.row p hp),by have:=ok.few; simp; omega⟩
 o:=(h.Zkd ok hx hb hk).sm (by omega)
 on:=fun r=>Zfw (by simp) (fun key hkey=>by
  refine ZP.uniq ((h.step ok hx hb).fin ok hk |>.Tg key).set ((h.fin ok (by omega)).Tg key).set fun r => ?_;rw [Yl,Yl];by_cases hr:nmR ks r=key
  ·rw [if_pos hr,if_pos hr,Xh,if_neg]
   ·omega
   ·intro e;refine hkey ?_;simp [<- hr,e]
  ·rw [if_neg hr,if_neg hr]) r
end
theorem Zc7 (ks:List Nat) (fs:List (ByteArray×Nat)) (T T':Zs) (r:List Vl):nf (WU ks fs T') r=nf (WU ks fs T) r+nf (Lr ks fs T T') r:=by
 unfold Lr;rw [Na,T7];omega
theorem Jo.mono {R:List Vl->Prop} {k m:Nat} {T:Zs} (h:Jo R k T) (hk:k<=m):Jo R m T:=⟨h.t.mono hk,h.pos,h.row⟩
theorem Jo.start (R:List Vl->Prop):Jo R 0 []:=⟨Bd.nil,fun p h=>(by cases h),fun p h=>(by cases h)⟩
end
section
open Go Go.RowKit
def Zfx (r:List Vl):Prop:=∃ (n m:Int) (s:List UInt8),r=[⟨1,n,[]⟩,⟨1,m,[]⟩,⟨2,0,s⟩]/\(-3<=n/\n<=3)/\(-3<=m/\m<=3)/\s.length<=2
def Zfy (r:List Vl):Prop:=∃ (n m:Int),r=[⟨1,n,[]⟩,⟨1,m,[]⟩]/\(-3<=n/\n<=3)/\(-3<=m/\m<=3)
def Sh (u:Bool) (r:List Vl):Prop:=if u then Zfy r else Zfx r
theorem Zfx.right {r:List Vl} (h:Zfx r):Zk r=true/\r.map (·.k)=[1,1,2]:=by
 obtain ⟨n,m,s,rfl,h1,h2,h3⟩:=h;refine ⟨?_,rfl⟩;simp [Zk,Vl.right]; omega
theorem Zfy.right {r:List Vl} (h:Zfy r):Zk r=true/\r.map (·.k)=[1,1]:=by
 obtain ⟨n,m,rfl,h1,h2⟩:=h;refine ⟨?_,rfl⟩;simp [Zk,Vl.right]
theorem Sh.right {u:Bool} {r:List Vl} (h:Sh u r):Zk r=true/\r.map (·.k)=if u then [1,1] else [1,1,2]:=by
 cases u
 ·exact Zfx.right h
 ·exact Zfy.right h
theorem Sh.small {u:Bool} {r:List Vl} (h:Sh u r):∀ v∈r,-3<=v.n/\v.n<=3:=by
 cases u
 ·obtain ⟨n,m,s,rfl,h1,h2,h3⟩:=h;simp; omega
 ·obtain ⟨n,m,rfl,h1,h2⟩:=h;simp; omega
theorem Sh.rn {u:Bool} {r:List Vl} (h:Sh u r):Zfu r:=fun v hv=>by
 have h1:=h.small v hv;exact ⟨QY h.right.1 v hv,by omega,by omega⟩
theorem Sh.big {u:Bool} {r:List Vl} (h:Sh u r):∀ v∈r,-1000<=v.n/\v.n<=1000:=fun v hv=>by
 have h1:=h.small v hv;omega
end
section
open Go
namespace Ev
noncomputable section
def isK (v:V) (k:Int):Bool:=match v with
 | .ok (.int .i64 n)=>ieq n k
 | _=>false
def P0 (cs:List Zb):Nat->List Int->Bool
 | _,[]=>true
 | off,k::ks=>sel (isK (Kx (off+1) cs) k) (P0 cs (off+2) ks) false
def Zc8 (off:Nat) (ks:List Int) (c:Cs):Bool:=match c with
 | .mk cs _ _=>P0 cs off ks
 | .bad=>false
def T9 (s:St) (ks:List Int) (v:Zb):Bool:=match v with
 | .slice id off n _=>sel (Nat.beq n ks.length) (Zc8 off ks (s.ZK id)) false
 | _=>false
def ZlB (b:Bool) (s:St):R:=sel b (.ok (.bool true) s) .bad
def uW (K:Nat->Option (List Int)) (args:List Zb) (s:St):R:=match args with
 | [c,.gho _ t]=>(match K t with
  | some ks=>ZlB (T9 s ks c) s
  | none => .bad)
 | _ => .bad
def Zg9 (K:Nat->Option (List Int)):Orc:=⟨uW K⟩
def cellAt (s:St) (id off:Nat):V:=match s.ZK id with
 | .mk cs _ _=>Kx off cs
 | .bad => .bad
def pF (s:St) (ks:List Int) (v:V):Bool:=match v with
 | .ok c=>T9 s ks c
 | .bad=>false
def Zha (b:Bool) (s:St):R:=sel b (.ok (.bool false) s) .bad
def zN (s:St) (ks:List Int) (n:V) (d:V):Bool:=match n,d with
 | .ok (.int .i64 (.ofNat n)),.ok (.slice id off m _)=>sel (Nat.blt n m) (sel (Nat.ble m 1000000) (pF s ks (cellAt s id (off+n*2+1))) false) false
 | _,_=>false
def uX (s:St) (ks:List Int) (nb:Nat) (g:V):Bool:=match g with
 | .ok (.ptr gb 0)=>zN s ks (cellAt s nb 0) (cellAt s gb 1)
 | _=>false
def uY (f1 f2:Nat) (K:Nat->Option (List Int)) (args:List Zb) (s:St):R:=match args with
 | [.gho _ t,.func f [] [.ptr tb 0]]=>(match K t with
  | some ks=>sel (Nat.beq f f1) (Zha (pF s ks (cellAt s tb 1)) s) .bad
  | none => .bad)
 | [.gho _ t,.func f [] [.ptr fb 0,.ptr nb 0]]=>(match K t with
  | some ks=>sel (Nat.beq f f2) (Zha (uX s ks nb (cellAt s fb 0)) s) .bad
  | none => .bad)
 | _ => .bad
def Zkf (f1 f2:Nat) (K:Nat->Option (List Int)):Orc:=⟨uY f1 f2 K⟩
end
section
variable [Sig] {r:Rho} {s:St} {w:World}
theorem Ra (hr:Rel r s w) {id i:Nat} {x:RB} (hx:r id=some x) {cs:List Zb} {e:Nat} {o:Bool} (hc:s.ZK id = .mk cs e o) {v:Zb} (hv:Kx i cs = .ok v):∃ u,w.cell? ⟨x.blk,i,none⟩=some u/\VR r v u:=by
 obtain ⟨ob,h1,h2⟩:=hr.block id _ x (ZT hc) hx;obtain ⟨_,vs,rest,t,fr,rfl,h3,_,_,_⟩:=h2;obtain ⟨u,h4,h5⟩:=h3.get (Rb i hv);refine ⟨u,?_,h5⟩;rw [cell_of_row w x.blk i _ t fr h1];have:=(List.getElem?_eq_some_iff.1 h4).1;simp only [List.getElem?_toArray];rw [List.getElem?_append_left this];exact h4
theorem Q0 (hr:Rel r s w) {id i:Nat} {v:Zb} (h:cellAt s id i = .ok v) {x:RB} (hx:r id=some x):∃ u,w.cell? ⟨x.blk,i,none⟩=some u/\VR r v u:=by
 unfold cellAt at h;split at h
 ·rename_i cs e o hc;exact Ra hr hx hc h
 ·cases h
theorem Nc:∀ {cs:List Zb} {ks:List Int} {off:Nat},P0 cs off ks=true->∀ j k,ks[j]? = some k->Kx (off+j*2+1) cs = .ok (.int .i64 k)
 | cs,[],_,_,j,k,hk=>by simp at hk
 | cs,k0::ks,off,h,j,k,hk=>by
  rcases Ze (show sel (isK (Kx (off+1) cs) k0) (P0 cs (off+2) ks) false=true from h) with ⟨h1,h2⟩ | ⟨_,h2⟩
  ·cases j with
   | zero =>
    simp at hk;subst hk;unfold isK at h1;split at h1
    ·rename_i n hn;rw [QQ] at h1;rw [Nat.zero_mul,Nat.add_zero,hn,eq_of_beq h1]
    ·cases h1
   | succ j =>
    have:=Nc h2 j k (by simpa using hk)
    rwa [show off+2+j*2+1=off+(j+1)*2+1 by omega] at this
  ·cases h2
theorem Th (hr:Rel r s w) {ks:List Int} {v:Zb} {u:Value} (hv:VR r v u) (h:T9 s ks v=true):Ti w u ks:=by
 unfold T9 at h;split at h
 ·rename_i id off n c;rcases Ze h with ⟨h1,h2⟩ | ⟨_,h2⟩
  ·have h1:=Nat.eq_of_beq_eq_true h1;subst h1;unfold Zc8 at h2;split at h2
   ·rename_i cs e o hc;cases hv with
    | slice hx hn hcc hu =>
     rename_i x cap;refine ⟨_,_,rfl,fun _=>⟨x.blk,off,rfl,fun j k hk => ?_⟩⟩;obtain ⟨u,h3,h4⟩:=Ra hr hx hc (Nc h2 j k hk);cases h4;exact h3
   ·cases h2
  ·cases h2
 ·cases h
theorem EE (hr:Rel r s w) {ks:List Int} {v:V} (h:pF s ks v=true):∃ c,v = .ok c/\T9 s ks c=true:=by
 unfold pF at h;split at h
 ·exact ⟨_,rfl,h⟩
 ·cases h
variable {M:Nat->Mn} (hM:Sig.Q6=QL M)
theorem WV {r:List Vl} (h:Zk r=true):(∀ x∈r,x.right=true)/\r.length<=1000000:=by
 unfold Zk at h;simp only [Bool.and_eq_true,decide_eq_true_eq,Bool.not_eq_true',List.any_eq_false] at h;exact ⟨fun x hx=>by simpa using h.2 x hx,by omega⟩
include hM
theorem Uj {K:Nat->Option (List Int)} (hK:∀ t ks,K t=some ks->∃ l,M t = .row l/\l.map (·.k)=ks)
  {fn:Func} {b:Code} (hf:prog.funcs[164]? = some fn) (hname:(fn.name== "runtime.NumGoroutine")=false) (hb:fn.body=some b):Qc prog 164 (Zg9 K):=by
 intro args s v s' h r w us hr hv;have h:uW K args s = .ok v s':=h;unfold uW at h;split at h
 ·rename_i c i t _;cases hv with
  | cons hx ht=>cases ht with
   | cons hy ht =>
    cases ht;split at h
    ·rename_i ks hk;obtain ⟨l,m1,rfl⟩:=hK _ _ hk;rcases Ze h with ⟨h1,h⟩ | ⟨_,h⟩
     ·cases h;obtain ⟨z1,a1⟩:=G7 hM hr hy m1;obtain ⟨z2,z3⟩:=WV z1;refine Xf hf hname hb ((Tj (Th hr hx h1) a1 z2 z3).mono ?_);rintro _ w' ⟨rfl,h5⟩;exact ⟨_,rfl,r,Ext.same hr h5,.bool _⟩
     ·cases h
    ·cases h
 ·cases h
theorem Za2 {K:Nat->Option (List Int)} (hK:∀ t ks,K t=some ks->∃ S,M t = .set S/\∀ p∈S,p.1.map (·.k)=ks)
  {fn:Func} {b:Code} (hf:prog.funcs[162]? = some fn) (hname:(fn.name== "runtime.NumGoroutine")=false) (hb:fn.body=some b)
  (e1:∀ args W,(callFunc 163 args).run prog W = .ok (.enter 163 args) W)
  (e2:∀ args W,(callFunc 175 args).run prog W = .ok (.enter 175 args) W) :
  Qc prog 162 (Zkf 163 175 K):=by
 intro args s v s' h r w us hr hv;have h:uY 163 175 K args s = .ok v s':=h;unfold uY at h;split at h
 ·rename_i i t f tb _;cases hv with
  | cons hx ht=>cases ht with
   | cons hy ht =>
    cases ht;split at h
    ·rename_i ks hk;obtain ⟨S,m1,hks⟩:=hK _ _ hk;rcases Ze h with ⟨iB,h⟩ | ⟨_,h⟩
     ·have iB:=Nat.eq_of_beq_eq_true iB;subst iB;rcases Ze (show sel (pF s ks (cellAt s tb 1)) (.ok (.bool false) s) .bad=R.ok v s' from h) with ⟨h1,h⟩ | ⟨_,h⟩
      ·cases h;obtain ⟨c,h2,h3⟩:=EE hr h1;obtain ⟨z1,a1⟩:=XJ hM hr hx m1;cases hy with
       | func _ ha hb2 =>
        cases ha;cases hb2 with
        | cons hp ht =>
         cases ht;cases hp with
         | ptr hp =>
          rename_i x;obtain ⟨u,h4,h5⟩:=Q0 hr h2 hp;have iC:=Th hr h5 h3;refine Xf hf hname hb ((Wb e1 a1 fun rv y W hy hrow _ _ hW => ?_).mono ?_)
          ·obtain ⟨p,hp',rfl⟩:=List.mem_map.1 hy;obtain ⟨z2,z3⟩:=WV (z1.set.row p hp');refine Fe (hW.cell h4 fun h=>h) ?_ (hrow.Zf hW) z2 z3;have:=iC.Zf hW;rw [<- hks p hp'] at this;exact this
          ·rintro _ w' ⟨rfl,h5⟩;exact ⟨_,rfl,r,Ext.same hr h5,.bool _⟩
      ·cases h
     ·cases h
    ·cases h
 ·rename_i i t f fb nb _;cases hv with
  | cons hx ht=>cases ht with
   | cons hy ht =>
    cases ht;split at h
    ·rename_i ks hk;obtain ⟨S,m1,hks⟩:=hK _ _ hk;rcases Ze h with ⟨iB,h⟩ | ⟨_,h⟩
     ·have iB:=Nat.eq_of_beq_eq_true iB;subst iB;rcases Ze (show sel (uX s ks nb (cellAt s fb 0)) (.ok (.bool false) s) .bad=R.ok v s' from h) with ⟨h1,h⟩ | ⟨_,h⟩
      ·cases h;obtain ⟨z1,a1⟩:=XJ hM hr hx m1;unfold uX at h1;split at h1
       ·rename_i gb hgb;unfold zN at h1;split at h1
        ·rename_i N id off m c hn hd;rcases Ze h1 with ⟨g1,h1⟩ | ⟨_,h1⟩
         ·rcases Ze h1 with ⟨g2,h1⟩ | ⟨_,h1⟩
          ·obtain ⟨c,h2,h3⟩:=EE hr h1;cases hy with
           | func _ ha hb2 =>
            cases ha;cases hb2 with
            | cons hp ht=>cases ht with
             | cons hp2 ht =>
              cases ht;cases hp with
              | ptr hp =>
               cases hp2 with
               | ptr hp2 =>
                rename_i x x2;obtain ⟨u1,k1,k2⟩:=Q0 hr hgb hp;cases k2 with
                | ptr hg =>
                 obtain ⟨u2,k3,k4⟩:=Q0 hr hd hg;obtain ⟨u3,k5,k6⟩:=Q0 hr hn hp2;cases k6;cases k4 with
                 | slice hdx hdn hdc hdu =>
                  obtain ⟨u4,k7,k8⟩:=Q0 hr h2 hdx;have iC:=Th hr k8 h3;refine Xf hf hname hb ((Wb e2 a1 fun rv y W hy hrow _ _ hW => ?_).mono ?_)
                  ·obtain ⟨p,hp',rfl⟩:=List.mem_map.1 hy;obtain ⟨z2,z3⟩:=WV (z1.set.row p hp');refine Ls (hW.cell k1 fun h=>h) (hW.cell k3 fun h=>h) (hW.cell k5 fun h=>h) (QJ g1) (Qj g2) (hW.cell k7 fun h=>h) ?_ (hrow.Zf hW) z2 z3;have:=iC.Zf hW;rw [<- hks p hp'] at this;exact this
                  ·rintro _ w' ⟨rfl,h5⟩;exact ⟨_,rfl,r,Ext.same hr h5,.bool _⟩
          ·cases h1
         ·cases h1
        ·cases h1
       ·cases h1
      ·cases h
     ·cases h
    ·cases h
 ·cases h
end
end Ev
end
section
open Go
theorem qZ:fl 0=0:=by kernel_rfl
theorem zO:fl 1=4607182418800017408:=by kernel_rfl
namespace Ev
noncomputable section
def Zdb (v:V):Option Bool:=match v with
 | .ok (.Z3 .f64 a b)=>sel (Nat.beq a 4607182418800017408) (sel (Nat.beq b 0) (some true) none) (sel (Nat.beq a 0) (sel (Nat.beq b 4607182418800017408) (some false) none) none)
 | _=>none
def Uk (v:V):Option Nat:=match v with
 | .ok (.gho _ t)=>some t
 | _=>none
def Zkh (T:Nat->Nat->Bool->Option Nat) (s:St) (a:Nat) (t:Option Nat) (b:Option Bool):R:=match t,b with
 | some t,some b=>Zh0 s (T a t b)
 | _,_ => .bad
def Zdc (s:St) (id:Nat) (c:Option Nat):Bool:=match c,s.ZK id with
 | some c,_=>Nat.ble c 1000
 | none,.mk cs e o=>sel o false (sel (Nat.beq e 0) false (Nat.ble cs.length 1000))
 | _,_=>false
def uZ (T:Nat->Nat->Option Nat) (T1:Nat->Nat->Bool->Option Nat) (args:List Zb) (s:St):R:=match args with
 | [.gho _ a,.gho _ b]=>Zh0 s (T a b)
 | [.gho _ a,.slice id off 1 c]=>sel (Zdc s id c) (Zkh T1 s a (Uk (cellAt s id off)) (Zdb (cellAt s id (off+1)))) .bad
 | _ => .bad
def Zhb (T:Nat->Nat->Option Nat) (T1:Nat->Nat->Bool->Option Nat):Orc:=⟨uZ T T1⟩
end
theorem Zde {v:V} {b:Bool} (h:Zdb v=some b):v = .ok (.Z3 .f64 (fl (if b then 1 else 0)) (fl (if b then 0 else 1))):=by
 unfold Zdb at h;split at h
 ·rcases Ze h with ⟨h1,h⟩ | ⟨_,h⟩
  ·rcases Ze h with ⟨h2,h⟩ | ⟨_,h⟩
   ·cases h;rw [Nat.eq_of_beq_eq_true h1,Nat.eq_of_beq_eq_true h2];simp only [if_true,qZ,zO]
   ·cases h
  ·rcases Ze h with ⟨h1,h⟩ | ⟨_,h⟩
   ·rcases Ze h with ⟨h2,h⟩ | ⟨_,h⟩
    ·cases h;rw [Nat.eq_of_beq_eq_true h1,Nat.eq_of_beq_eq_true h2];simp only [Bool.false_eq_true,if_false,qZ,zO]
    ·cases h
   ·cases h
 ·cases h
theorem Za3 {v:V} {t:Nat} (h:Uk v=some t):∃ i,v = .ok (.gho i t):=by
 unfold Uk at h;split at h
 ·cases h; exact ⟨_,rfl⟩
 ·cases h
section
theorem Zdf [Sig] {r:Rho} {s:St} {w:World} (hr:Rel r s w) {id off n cap:Nat} {c:Option Nat} {x:RB} (hx:r id=some x) (hc:∀ k,c=some k->cap=k) (hu:c=none->off+cap*x.esz=x.size) (h:Zdc s id c=true):cap<=1000:=by
 unfold Zdc at h;split at h
 ·rw [hc _ rfl];exact Qj h
 ·rename_i cs e o hb;obtain ⟨ob,h1,h2⟩:=hr.block id _ x (ZT hb) hx;obtain ⟨rfl,vs,rest,t,fr,rfl,h3,h4,h5,_⟩:=h2;cases o with
  | true=>cases h
  | false =>
   have h:sel (Nat.beq x.esz 0) false (Nat.ble cs.length 1000)=true:=h;rcases Ze h with ⟨_,h⟩ | ⟨g,h⟩
   ·cases h
   ·have h6:=Qj h;have h7:=h5 rfl;subst h7;have h8:=h3.length;rw [List.append_nil] at h4;have h9:=hu rfl;have h10:x.esz≠0:=fun e=>by rw [e] at g; cases g
    have h11:cap*1<=cap*x.esz:=Nat.mul_le_mul_left _ (by omega);omega
 ·cases h
variable [Sig] {M:Nat->Mn} (hM:Sig.Q6=QL M)
include hM
theorem Ul {T:Nat->Nat->Option Nat} {T1:Nat->Nat->Bool->Option Nat} (hT:∀ a b c,T a b=some c->∃ S S' bD,M a = .set S/\M b = .set S'/\M c = .set bD/\Sm bD/\∀ r,nf bD r=nf S r+nf S' r)
  (hT1:∀ a t b c,T1 a t b=some c->∃ S l bD,M a = .set S/\M t = .row l/\M c = .set bD/\Sm bD/\∀ r,nf bD r=nf S r+if l=r then (if b then 1 else -1) else 0)
  {fn:Func} {b:Code} (hf:prog.funcs[112]? = some fn) (hname:(fn.name== "runtime.NumGoroutine")=false) (hb:fn.body=some b):Qc prog 112 (Zhb T T1):=by
 intro args s v s' h r w us hr hv;have h0:uZ T T1 args s = .ok v s':=h;unfold uZ at h0;split at h0
 ·rename_i _ i a j b';exact OY hM hT hf hname hb [.gho i a,.gho j b'] s v s' h0 r w us hr hv
 ·rename_i _ i a id off cc;rcases Ze h0 with ⟨g1,h0⟩ | ⟨_,h0⟩
  ·cases hv with
   | cons hx ht=>cases ht with
    | cons hy ht =>
     cases ht;unfold Zkh at h0;split at h0
     ·rename_i t sd hts hsd;cases hc:T1 a t sd with
      | none=>rw [hc] at h0; cases h0
      | some c =>
       rw [hc] at h0;cases h0;obtain ⟨S,l,bD,m1,m2,m3,hs,hnf⟩:=hT1 a t sd c hc;obtain ⟨z1,a1⟩:=XJ hM hr hx m1;obtain ⟨ti,hti⟩:=Za3 hts;have hsd:=Zde hsd;cases hy with
       | slice hdx hdn hdc hdu =>
        rename_i x cap;have hcc:=Zdf (n:=1) hr hdx hdc hdu g1;obtain ⟨u1,k1,k2⟩:=Q0 hr hti hdx;obtain ⟨u2,k3,k4⟩:=Q0 hr hsd hdx;cases k4;obtain ⟨z2,a2⟩:=G7 hM hr k2 m2;obtain ⟨_,z4⟩:=WV z2
        have a3:Zo (fun b=>Jz r b\/b=x.blk) w (.slice (some ⟨x.blk,off,none⟩) 1 cap) [⟨l,if sd then 1 else 0,if sd then 0 else 1⟩]:=by
         refine ⟨_,_,rfl,hdn,by omega,fun _=>⟨x.blk,off,rfl,.inr rfl,World.block_lt_of_cell? w _ k1,fun j y hy => ?_⟩⟩;cases j with
         | succ j=>simp at hy
         | zero =>
          simp at hy;subst hy;exact ⟨⟨u1,by simpa using k1,a2.mono fun b hb _ => .inl hb⟩,by simpa [tc] using k3,by cases sd <;> simp,by cases sd <;> simp,z4⟩
        have hw1:ZW [(⟨l,if sd then 1 else 0,if sd then 0 else 1⟩:Itm)]=1:=by cases sd <;> rfl
        refine Xf hf hname hb ((Te a1 a3 (by rw [Zu]; have:=z1.few; omega) (by simp) z1.rows (fun y hy=>by rw [List.mem_singleton.1 hy]; exact z2) (by rw [hw1]; have:=z1.sum; omega)).mono ?_);rintro _ w' ⟨u,S3,rfl,hz,h3,_,h4,h5⟩
        have:S3=bD:=ZP.uniq hz hs.set fun r=>by
         rw [h3,Qe,Wn,hnf];cases sd <;> simp [Qv,Itm.net]
        subst this;obtain ⟨q,e1,e2⟩:=PY hM hr h5 (fun k hk _ => .inr hk) m3 hs h4;exact ⟨_,rfl,q,e1,.tuple (.cons e2 (.cons (.int _ _) .nil))⟩
     ·cases h0
  ·cases h0
 ·cases h0
end
end Ev
end
section
open Go
theorem Zki {n:Int} (h0:n≠0) (h1 : -1000000<=n) (h2:n<=1000000) (P:Program) (t:TypeId) (W:World) :
  (binOp .eql t (tn n) (.complex .f64 0 0)).run P W = .ok (.bool false) W/\(binOp .neq t (tn n) (.complex .f64 0 0)).run P W = .ok (.bool true) W:=by
 have e:(Value.complex .f64 0 0) = .complex .f64 (fl 0) (fl 0):=by rw [qZ]
 have hb:(decide (n.toNat=0) && decide ((-n).toNat=0))=false:=by
  rw [Bool.and_eq_false_iff,decide_eq_false_iff_not,decide_eq_false_iff_not];omega
 rw [e];unfold tn tc;rw [Dz (by omega) (by omega) (by decide) (by decide),Ko (by omega) (by omega) (by decide) (by decide),hb];exact ⟨rfl,rfl⟩
theorem ZfA {M:Nat->Mn} (h:M 0 = .nz):∀ F w v,QL M 0 F w v->(∃ a b,v = .complex .f64 a b)/\∀ (P:Program) (t:TypeId) (W:World),(binOp .eql t v (.complex .f64 0 0)).run P W = .ok (.bool false) W/\(binOp .neq t v (.complex .f64 0 0)).run P W = .ok (.bool true) W:=by
 intro F w v hm;unfold QL at hm;rw [h] at hm;obtain ⟨n,h0,h1,h2,rfl⟩:=hm;exact ⟨⟨_,_,rfl⟩,fun P t W=>Zki h0 h1 h2 P t W⟩
namespace Ev
noncomputable section
def ZlC (s:St) (o:Option Bool):R:=match o with
 | some true => .ok (.gho s.next 0) s.Vy
 | some false => .ok (.Z3 .f64 0 0) s
 | none => .bad
def ofR (T:Nat->Nat->Option Bool) (args:List Zb) (s:St):R:=match args with
 | [.gho _ a,.gho _ t]=>ZlC s (T a t)
 | _ => .bad
def oOf (T:Nat->Nat->Option Bool):Orc:=⟨ofR T⟩
end
section
variable [Sig] {M:Nat->Mn} (hM:Sig.Q6=QL M)
include hM
theorem Zdg {T:Nat->Nat->Option Bool} (h0:M 0 = .nz) (hT:∀ a t b,T a t=some b->∃ S l,M a = .set S/\M t = .row l/\(b=true↔Jj S l≠0) /\ -1000000<=Jj S l/\Jj S l<=1000000)
  {fn:Func} {b:Code} (hf:prog.funcs[166]? = some fn) (hname:(fn.name== "runtime.NumGoroutine")=false) (hb:fn.body=some b):Qc prog 166 (oOf T):=by
 intro args s v s' h r w us hr hv;have h:ofR T args s = .ok v s':=h;unfold ofR at h;split at h
 ·rename_i i a j t _;cases hv with
  | cons hx ht=>cases ht with
   | cons hy ht =>
    cases ht;cases hc:T a t with
    | none=>rw [hc] at h; cases h
    | some bb =>
     rw [hc] at h;obtain ⟨S,l,m1,m2,hiff,g1,g2⟩:=hT a t bb hc;obtain ⟨z1,a1⟩:=XJ hM hr hx m1;obtain ⟨z2,a2⟩:=G7 hM hr hy m2;refine Xf hf hname hb ((ZaJ a1 z1.zr a2).mono ?_);rintro _ w' ⟨rfl,h5⟩;cases bb with
     | true =>
      cases h
      have hm:Sig.Q6 0 (fun _=>False) w' (tn (Jj S l)):=by
       rw [hM];unfold QL;rw [h0];exact ⟨_,hiff.1 rfl,g1,g2,rfl⟩
      obtain ⟨q,e1,e2⟩:=EA hr h5 (u:=tn (Jj S l)) rfl (fun b h=>by cases h) (fun k hk _=>hk.elim) hm;exact ⟨_,rfl,q,e1,e2⟩
     | false =>
      cases h
      have hz:Jj S l=0:=by
       by_cases hz:Jj S l=0
       ·exact hz
       ·have:=hiff.2 hz; cases this
      rw [hz];refine ⟨_,rfl,r,Ext.same hr h5,?_⟩;show VR r (.Z3 .f64 0 0) (.complex .f64 (fl 0) (fl 0));rw [qZ];exact .Z3 _ _ _
 ·cases h
end
end Ev
end
section
open Go
namespace Ev
noncomputable section
def zP (t:TypeId) (s:St) (m:Option Zd):R:=match m with
 | some (.opq g a) => .ok (.iface t (.map s.next)) (s.new (.opq g a))
 | _ => .bad
def Ff (args:List Zb) (s:St):R:=match args with
 | [.iface t (.map m)]=>zP t s (s.get m)
 | _ => .bad
def EF:Orc:=⟨Ff⟩
def Fg (cs:List Zb):Nat->List Nat->Bool
 | _,[]=>true
 | off,k::ks=>sel (isK (Kx off cs) (.ofNat k)) (Fg cs (off+1) ks) false
def Zhc (off:Nat) (ks:List Nat) (c:Cs):Bool:=match c with
 | .mk cs _ _=>Fg cs off ks
 | .bad=>false
def Um (s:St) (ks:List Nat) (v:Zb):Bool:=match v with
 | .Za=>(match ks with
  | []=>true
  | _=>false)
 | .slice id off n _=>sel (Nat.beq n ks.length) (Zhc off ks (s.ZK id)) false
 | _=>false
def isS (v:V) (l:List UInt8):Bool:=match v with
 | .ok (.str k)=>QH k l
 | _=>false
def Fh (cs:List Zb):Nat->List (List UInt8×Nat)->Bool
 | _,[]=>true
 | off,f::fs=>sel (isS (Kx off cs) f.1) (sel (isK (Kx (off+1) cs) (.ofNat f.2)) (Fh cs (off+2) fs) false) false
def Zhd (off:Nat) (fs:List (List UInt8×Nat)) (c:Cs):Bool:=match c with
 | .mk cs _ _=>Fh cs off fs
 | .bad=>false
def Uo (s:St) (fs:List (List UInt8×Nat)) (v:Zb):Bool:=match v with
 | .slice id off n _=>sel (Nat.beq n fs.length) (Zhd off fs (s.ZK id)) false
 | _=>false
def mF (s:St) (m:Nat) (o:Option (Nat×Nat)):R:=match o with
 | some p => .ok (.tuple [.gho (s.next+1) p.2,.int .i64 (.ofNat 0)]) (s.Vy.Vy.put m (.opq s.next p.1))
 | none => .bad
def zQ (KF:Nat->Option (List Nat×List (List UInt8×Nat))) (T:Nat->Nat->Option (Nat×Nat)) (s:St) (d m:Nat) (kv fv:Zb) (b:Option Zd):R:=match b with
 | some (.opq g a)=>(match KF a with
  | some kf=>sel (Um s kf.1 kv) (sel (Uo s kf.2 fv) (mF s m (T a d)) .bad) .bad
  | none => .bad)
 | _ => .bad
def zR (KF:Nat->Option (List Nat×List (List UInt8×Nat))) (T:Nat->Nat->Option (Nat×Nat)) (s:St) (d:Nat) (k f m:V):R:=match k,f,m with
 | .ok kv,.ok fv,.ok (.map m)=>zQ KF T s d m kv fv (s.get m)
 | _,_,_ => .bad
def ve (KF:Nat->Option (List Nat×List (List UInt8×Nat))) (T:Nat->Nat->Option (Nat×Nat)) (args:List Zb) (s:St):R:=match args with
 | [.ptr p 0,.gho _ d]=>zR KF T s d (cellAt s p 0) (cellAt s p 1) (cellAt s p 2)
 | _ => .bad
def Zkl (KF:Nat->Option (List Nat×List (List UInt8×Nat))) (T:Nat->Nat->Option (Nat×Nat)):Orc:=⟨ve KF T⟩
end
section
variable [Sig] {P:Program} {r:Rho} {s:St} {w:World}
theorem Fi {f:FuncId} {fn:Func} (hf:P.funcs[f]? = some fn) (hname:(fn.name== "runtime.NumGoroutine")=false) (hb:fn.body.isNone=true) (hn:Extern.findNext fn=none) (he:Extern.find fn=some Extern.MapsClone.clone)
  (vg:∀ t F w o,Sig.Xg t F w o->∃ es c,o = .map es c):Qc P f EF:=by
 intro args s v s' h r w us hr hv;have h:Ff args s=R.ok v s':=h;unfold Ff at h;split at h
 ·rename_i t m;cases hv with
  | cons hv ht =>
   cases ht;cases hv with
   | iface _ hv =>
    cases hv with
    | map hm =>
     rename_i x;unfold zP at h;split at h
     ·rename_i g a aQ;cases h;obtain ⟨o,h1,y,gg,h2,h3,h4⟩:=hr.block _ _ _ aQ hm;obtain ⟨es,c,rfl⟩:=vg _ _ _ _ h4;refine .inl ⟨_,w.alloc (.map es c),?_,r.at s.next (RB.of w.heap.size (0) (0)),Ext.new hr rfl (o := .map es c) (by show (w.alloc (.map es c)).heap[w.heap.size]? = _; unfold World.alloc; exact Array.getElem?_push_size) ⟨y,gg,(r.JU _ (hr.Z8 (Nat.le_refl _))) _ _ h2,h3,h4⟩ (fun k hk => ?_) (Nat.le_of_lt (by simp)) rfl rfl rfl,.iface _ (.map (x:=RB.of w.heap.size (0) (0)) (Rho.Zn _ _ _))⟩
      ·rw [run_callFunc_extern hf hname hb hn he];exact congrArg (fun x=>x.andThen fun v w'=>Result.ok (Next.value v) w') (Hi _ h1)
      ·exact Go.RowKit.Below.heap_alloc w _ k hk
     ·cases h
 ·cases h
theorem ZfB (hr:Rel r s w) {w':World} {o:Obj} {F:Nat->Prop} {t:Nat} (hc:Chg (fun _=>False) w w') (hF:∀ k,F k->k<w'.heap.size->Jz r k\/w.heap.size<=k) (hm:Sig.Xg t F w' o) :
  ∃ q,Ext r s w q s.Vy w'/\∃ y g,q s.next=some y/\y.gho=some g/\Sig.Xg t g.R9 g.made o/\g.R9=F/\g.made=w':=by
 let g:Gh:=⟨.map none,rfl,(fun b h=>by cases h),F,w'⟩
 let x:RB:=⟨0,0,0,some g⟩
 refine ⟨r.at s.next x,Ext.gho hr (fun g' hg => ?_) (fun g' hg k hk hl => ?_) (fun k hk=>hc.block k hk fun h=>h) hc.size hc.os hc.tape hc.output,x,g,Rho.Zn _ _ _,rfl,hm,rfl,rfl⟩
 ·cases hg;refine ⟨Nat.le_refl _,fun k hk hl=>⟨rfl,fun hh => ?_⟩⟩;rcases hF k hk hl with ⟨i,y,g',e1,e2,e3,e4⟩ | h3
  ·exact ((hr.safe i y g' e1 e2).2 k e3 e4).2 hh
  ·have:=hr.lt hh; omega
 ·cases hg;exact hF k hk hl
theorem zS {v:V} {k:Int} (h:isK v k=true):v = .ok (.int .i64 k):=by
 unfold isK at h;split at h
 ·rw [QQ] at h;rw [eq_of_beq h]
 ·cases h
theorem Zh8 {v:V} {l:List UInt8} (h:isS v l=true):v = .ok (.str l):=by
 unfold isS at h;split at h
 ·rw [Qn] at h;rw [eq_of_beq h]
 ·cases h
theorem Hj:∀ {cs:List Zb} {ks:List Nat} {off:Nat},Fg cs off ks=true->∀ (j n:Nat),ks[j]? = some n->Kx (off+j) cs = .ok (.int .i64 (n:Int))
 | cs,[],_,_,j,n,hk=>by simp at hk
 | cs,k0::ks,off,h,j,n,hk=>by
  rcases Ze (show sel (isK (Kx off cs) (.ofNat k0)) (Fg cs (off+1) ks) false=true from h) with ⟨h1,h2⟩ | ⟨_,h2⟩
  ·cases j with
   | zero=>simp at hk; subst hk; exact zS h1
   | succ j =>
    have:=Hj h2 j n (by simpa using hk);rw [show off+(j+1)=off+1+j by omega];exact this
  ·cases h2
theorem Hk:∀ {cs:List Zb} {fs:List (List UInt8×Nat)} {off:Nat},Fh cs off fs=true->∀ (j:Nat) f,fs[j]? = some f->Kx (off+j*2) cs = .ok (.str f.1)/\Kx (off+j*2+1) cs = .ok (.int .i64 (f.2:Int))
 | cs,[],_,_,j,f,hk=>by simp at hk
 | cs,f0::fs,off,h,j,f,hk=>by
  rcases Ze (show sel (isS (Kx off cs) f0.1) (sel (isK (Kx (off+1) cs) (.ofNat f0.2)) (Fh cs (off+2) fs) false) false=true from h) with ⟨h1,h2⟩ | ⟨_,h2⟩
  ·rcases Ze h2 with ⟨h3,h4⟩ | ⟨_,h4⟩
   ·cases j with
    | zero=>simp at hk; subst hk; exact ⟨Zh8 h1,zS h3⟩
    | succ j =>
     have:=Hk h4 j f (by simpa using hk);rw [show off+(j+1)*2=off+2+j*2 by omega];exact this
   ·cases h4
  ·cases h2
def YJ (fs:List (List UInt8×Nat)):List (ByteArray×Nat):=fs.map fun f=>(⟨⟨f.1⟩⟩,f.2)
theorem Zdj (hr:Rel r s w) {p m:Nat} {x y:RB} {kv fv:Zb} (hx:r p=some x) (hy:r m=some y) {ks:List Nat} {fs:List (List UInt8×Nat)} (h0:cellAt s p 0 = .ok kv) (h1:cellAt s p 1 = .ok fv) (h2:cellAt s p 2 = .ok (.map m)) (hk:Um s ks kv=true) (hf:Uo s fs fv=true)
  (hkl:ks.length<=6) (hfl:fs.length<=6):∃ fb fo fc kc KA,T0 w x.blk y.blk fb fo fc kc KA ks (YJ fs):=by
 obtain ⟨u0,c0,v0⟩:=Q0 hr h0 hx;obtain ⟨u1,c1,v1⟩:=Q0 hr h1 hx;obtain ⟨u2,c2,v2⟩:=Q0 hr h2 hx
 have hmap:u2 = .map (some y.blk):=by
  cases v2 with
  | map h=>rw [hy] at h; injection h with h; rw [h]
 subst hmap
 have hfun:∃ fb fo fc,u1 = .slice (some ⟨fb,fo,none⟩) fs.length fc/\∀ (j:Nat) f,(YJ fs)[j]? = some f->w.cell? ⟨fb,fo+j*2,none⟩=some (.string f.1)/\w.cell? ⟨fb,fo+j*2+1,none⟩=some (.int .i64 (f.2:Int)):=by
  unfold Uo at hf;split at hf
  ·rename_i id off n cap;obtain ⟨h3,h4⟩:=ZE hf;have h3:=Nat.eq_of_beq_eq_true h3;subst h3;cases v1 with
   | slice hz hn hc hu =>
    rename_i z lq;refine ⟨z.blk,off,lq,rfl,fun j f hj => ?_⟩;unfold Zhd at h4;split at h4
    ·rename_i cs e o hcs;unfold YJ at hj;rw [List.getElem?_map] at hj;obtain ⟨f',hf',rfl⟩:=Option.map_eq_some_iff.1 hj;obtain ⟨e1,e2⟩:=Hk h4 j f' hf';obtain ⟨a1,b1,d1⟩:=Ra hr hz hcs e1;obtain ⟨a2,b2,d2⟩:=Ra hr hz hcs e2;cases d1;cases d2;exact ⟨b1,b2⟩
    ·cases h4
  ·cases hf
 obtain ⟨fb,fo,fc,rfl,iB⟩:=hfun;have jf:(YJ fs).length=fs.length:=by simp [YJ]
 have hkey:∃ KA kc,u0 = .slice KA ks.length kc/\∀ (j n:Nat),ks[j]? = some n->∃ kb ko,KA=some ⟨kb,ko,none⟩/\w.cell? ⟨kb,ko+j,none⟩=some (.int .i64 (n:Int)):=by
  unfold Um at hk;split at hk
  ·split at hk
   ·cases v0;exact ⟨none,0,rfl,fun j n hj=>by simp at hj⟩
   ·cases hk
  ·rename_i id off n cap;obtain ⟨h3,h4⟩:=ZE hk;have h3:=Nat.eq_of_beq_eq_true h3;subst h3;cases v0 with
   | slice hz hn hc hu =>
    rename_i z lq;refine ⟨some ⟨z.blk,off,none⟩,lq,rfl,fun j n hj=>⟨z.blk,off,rfl,?_⟩⟩;unfold Zhc at h4;split at h4
    ·rename_i cs e o hcs;obtain ⟨a1,b1,d1⟩:=Ra hr hz hcs (Hj h4 j n hj);cases d1;exact b1
    ·cases h4
  ·cases hk
 obtain ⟨KA,kc,rfl,hkk⟩:=hkey;exact ⟨fb,fo,fc,kc,KA,c0,by rw [jf]; exact c1,c2,hkk,iB,hkl,by rw [jf]; exact hfl⟩
end
section
variable [Sig] {M:Nat->Mn} (hM:Sig.Q6=QL M) (hO:Sig.Xg=Kw M)
include hM hO
theorem Za4 {KF:Nat->Option (List Nat×List (List UInt8×Nat))} {T:Nat->Nat->Option (Nat×Nat)}
  (hT:∀ a d kf p,KF a=some kf->T a d=some p->∃ I D I' O,M a = .obj (Wq kf.1 (YJ kf.2) I)/\M d = .set D/\M p.1 = .obj (Wq kf.1 (YJ kf.2) I')/\M p.2 = .set O/\T5 kf.1 (YJ kf.2) I D I' O)
  {fn:Func} {b:Code} (hf:prog.funcs[181]? = some fn) (hname:(fn.name== "runtime.NumGoroutine")=false) (hb:fn.body=some b):Qc prog 181 (Zkl KF T):=by
 intro args s v s' h r w us hr hv;have h0:ve KF T args s = .ok v s':=h;unfold ve at h0;split at h0
 ·rename_i _ p di d;unfold zR at h0;split at h0
  ·rename_i kv fv m hk q8 hm;unfold zQ at h0;split at h0
   ·rename_i g a hblk;split at h0
    ·rename_i kf hkf;rcases Ze h0 with ⟨hk1,h0⟩ | ⟨_,h0⟩
     ·rcases Ze h0 with ⟨hf1,h0⟩ | ⟨_,h0⟩
      ·cases ht:T a d with
       | none=>rw [ht] at h0; cases h0
       | some pr =>
        rw [ht] at h0;cases h0;obtain ⟨I,D,I',O,m1,m2,m3,m4,hch⟩:=hT a d kf pr hkf ht;cases hv with
        | cons hx ht=>cases ht with
         | cons hy ht =>
          cases ht;cases hx with
          | ptr hx =>
           rename_i x;obtain ⟨z1,a1⟩:=XJ hM hr hy m2;obtain ⟨um,cm,vm⟩:=Q0 hr hm hx;cases vm with
           | map hym =>
            rename_i y;have hkl:kf.1.length<=6:=by have:=hch.n6; omega
            have hfl:kf.2.length<=6:=by have:=hch.n6; simp only [YJ,List.length_map] at this; omega
            obtain ⟨fb,fo,fc,kc,KA,hF⟩:=Zdj hr hx hym hk q8 hm hk1 hf1 hkl hfl;obtain ⟨ob,bq,z,gg,hz,hzg,q9⟩:=hr.block m _ y hblk hym;have jO:=hr.safe g z gg hz hzg;rw [hO] at q9;unfold Kw at q9;rw [m1] at q9;obtain ⟨es,clock,f,rfl,hme,iB⟩:=q9;have jg:Wp kf.1 (YJ kf.2) I (Jz r) w f:=((iB.mono (G:=fun b=>gg.R9 b/\b<gg.made.heap.size) fun b hb hl=>⟨hb,hl⟩).move jO.1 fun k hk hl=>(jO.2 k hk.1 hl).1).mono fun b hb _=>⟨g,z,gg,hz,hzg,hb.1,hb.2⟩
            have hfm:∀ b,Jz r b->b≠y.blk:=fun b ⟨i,zz,g',e1,e2,e3,e4⟩ e=>((hr.safe i zz g' e1 e2).2 b e3 e4).2 ⟨m,_,y,hblk,hym,e.symm⟩;obtain ⟨KS,tu,hKn⟩:=hch.KS;refine Xf hf hname hb ((Fa hF ⟨es,clock,bq,hme⟩ hfm a1 z1.zr hch.ds hch.nd (hch.ZlA jg) (hch.few jg) (KS:=KS) (fun k hk => ?_) hKn).mono ?_)
            ·obtain ⟨v,hv⟩:=Option.ne_none_iff_exists'.1 hk;obtain ⟨q,hq,e,_⟩:=jg.to k v hv;rw [e];exact tu q hq
            ·rintro _ w' ⟨u,S,dn,iR,rfl,hzS,vk,hnd,hdn,hset,hc,hmf,vo,pG⟩
             have hSO:S=O:=ZP.uniq hzS hch.o.set fun r=>by
              rw [vk,hch.on];refine Sg (List.Perm.flatMap_right _ ?_) r;refine (List.perm_ext_iff_of_nodup hnd hch.nd).2 fun k => ?_;rw [hdn,List.mem_map];exact ⟨fun ⟨p,hp,e⟩=>⟨p,hp,e.symm⟩,fun ⟨p,hp,e⟩=>⟨p,hp,e.symm⟩⟩
             subst hSO;obtain ⟨es',clock',vw,vz⟩:=hmf;have uj:y.blk<w.heap.size:=lt_of_block bq
             have jf:=hch.left (F':=fun b=>(w.heap.size<=b\/Jz r b/\b<w.heap.size)/\b≠y.blk) jg hdn (fun v key S told hg=>(hg.mono (H:=fun b=>(w.heap.size<=b\/Jz r b/\b<w.heap.size)/\b≠y.blk) fun b hb hl=>⟨.inr ⟨hb,hl⟩,hfm b hb⟩).chg hc fun b hb _ e=>hb.2 e) vo fun p hp=>⟨(pG p hp).1,fun hn=>by
              obtain ⟨v,e1,e2⟩:=(pG p hp).2 hn
              exact ⟨v,e1,e2.mono fun b hb hl=>⟨hb,by
               rcases hb with hb | hb
               ·omega
               ·exact hfm b hb.1⟩⟩⟩
             obtain ⟨w1,hw1⟩:∃ x,x=upd w' y.blk (.map es clock):=⟨_,rfl⟩
             have hsz:w1.heap.size=w'.heap.size:=by rw [hw1]; simp [upd]
             have hne:∀ k,k≠y.blk->w1.heap[k]? = w'.heap[k]? := fun k hk=>by
              rw [hw1];simp only [upd];rw [Array.getElem?_setIfInBounds_ne (Ne.symm hk)]
             have hc1:Chg (fun _=>False) w w1:=by
              refine ⟨by rw [hw1]; exact hc.os,by rw [hw1]; exact hc.tape,by rw [hw1]; exact hc.output,by rw [hsz]; exact hc.size,fun k hk _ => ?_⟩;by_cases rC:k=y.blk
              ·subst rC;rw [bq,hw1];simp only [upd];rw [Array.getElem?_setIfInBounds_self_of_lt (by have:=hc.size; omega)]
              ·rw [hne k rC];exact hc.block k hk rC
             have hfo:Wq kf.1 (YJ kf.2) I' (fun b=>(w.heap.size<=b\/Jz r b/\b<w.heap.size)/\b≠y.blk) w1 (.map es' clock'):=⟨es',clock',iR,rfl,vz,jf.move (by rw [hsz]; exact Nat.le_refl _) fun k hk _=>hne k hk.2⟩
             obtain ⟨q1,x1,y1,g1,k1,k2,k3,k4,k5⟩:=ZfB hr (F:=fun b=>(w.heap.size<=b\/Jz r b/\b<w.heap.size)/\b≠y.blk) (t:=pr.1) hc1 (fun k hk _=>by
              rcases hk.1 with h | h
              ·exact .inr h
              ·exact .inl h.1) (by rw [hO]; unfold Kw; rw [m3]; exact hfo)
             obtain ⟨q2,x2,v2⟩:=PY (w':=w1) hM x1.rel (Chg.refl _ w1) (F:=fun b=>w.heap.size<=b/\b<w1.heap.size/\b≠y.blk) (t:=pr.2) (fun k hk _ => .inl ⟨s.next,y1,g1,k1,k2,by rw [k4]; exact ⟨.inl hk.1,hk.2.2⟩,by rw [k5]; exact hk.2.1⟩) m4 hch.o ((hset.mono fun b hb hl=>⟨hb,by rw [hsz]; exact hl,by have hb:w.heap.size<=b:=hb; omega⟩).move (by rw [hsz]; exact Nat.le_refl _) fun k hk _=>hne k hk.2.2);have mh:=x1.trans x2;have x3:=Ext.put (u:=w') (c := .opq s.next pr.1) (o := .map es' clock') mh.rel (i:=m) (b := .opq g a) (by exact hblk) (mh.le _ _ hym) vw ⟨y1,g1,x2.le _ _ k1,k2,k3⟩ (fun k hk=>(hne k hk).symm) hsz.symm (by rw [hw1]; rfl) (by rw [hw1]; rfl) (by rw [hw1]; rfl);exact ⟨_,rfl,q2,mh.trans x3,.tuple (.cons v2 (.cons (.int _ _) .nil))⟩
      ·cases h0
     ·cases h0
    ·cases h0
   ·cases h0
  ·cases h0
 ·cases h0
end
end Ev
end
namespace Ev
open Go
noncomputable section
structure Vw where
 z:Bool
 d:Int
 k:Int
 g:Tr Nat
 e:Tr Nat
 tg:Nat->Nat->Bool
 te:Nat->Bool
 tm:Nat->Bool
def isN (o:Option Nat) (i:Nat):Bool:=match o with
 | some k=>Nat.beq k i
 | none=>false
def Zh9 (o:Option Nat):Bool:=match o with
 | some _=>false
 | none=>true
def Za5 (z:Bool) (d k:Int) (c a b c' a' b':Int):Bool :=
 sel z (sel (ieq a (.ofNat 0)) (sel (ieq b (.ofNat 0)) (ieq c (c'+b'*k)) false) false)
  (sel (ieq a a') (sel (ieq b (.ofNat 0)) (ieq (c'+a*d+b'*k) c) false) false)
mutual
def YT (X:Vw):Zb->Zb->Bool
 | .int j a,.int k b=>sel (keq j k) (Za5 X.z X.d X.k a (.ofNat 0) (.ofNat 0) b (.ofNat 0) (.ofNat 0)) false
 | .int j a,.sint k c' a' b'=>sel (keq j k) (Za5 X.z X.d X.k a (.ofNat 0) (.ofNat 0) c' a' b') false
 | .sint j c a b,.int k n=>sel (keq j k) (Za5 X.z X.d X.k c a b n (.ofNat 0) (.ofNat 0)) false
 | .sint j c a b,.sint k c' a' b'=>sel (keq j k) (Za5 X.z X.d X.k c a b c' a' b') false
 | .bool a,.bool b=>Nd a b
 | .flt j a,.flt k b=>sel (G1 j k) (Nat.beq a b) false
 | .Z3 j a c,.Z3 k b e=>sel (G1 j k) (sel (Nat.beq a b) (Nat.beq c e) false) false
 | .str a,.str b=>QH a b
 | .Zp,.Zp=>true
 | .ptr i a,.ptr j b=>sel (isN (X.g.get j) i) (Nat.beq a b) false
 | .Za,.Za=>true
 | .Z5,.Z5=>true
 | .slice i a n none,.slice j b m none=>sel (isN (X.g.get j) i) (sel (Nat.beq a b) (Nat.beq n m) false) false
 | .slice i a n (some c),.slice j b m (some e)=>sel (isN (X.g.get j) i) (sel (Nat.beq a b) (sel (Nat.beq n m) (Nat.beq c e) false) false) false
 | .Zi,.Zi=>true
 | .map i,.map j=>isN (X.g.get j) i
 | .func f a b,.func g a' b'=>sel (Nat.beq f g) (sel (JQ X a a') (JQ X b b') false) false
 | .ZJ,.ZJ=>true
 | .nilIface,.nilIface=>true
 | .iface t a,.iface u b=>sel (Nat.beq t u) (YT X a b) false
 | .agg a,.agg b=>JQ X a b
 | .tuple a,.tuple b=>JQ X a b
 | .gho i a,.gho j b=>sel (isN (X.g.get j) i) (X.tg a b) false
 | .Za,.gho j b=>sel (Zh9 (X.g.get j)) (sel (isN (X.e.get j) 0) (X.te b) false) false
 | _,_=>false
def JQ (X:Vw):List Zb->List Zb->Bool
 | [],[]=>true
 | x::xs,y::ys=>sel (YT X x y) (JQ X xs ys) false
 | _,_=>false
end
def Tk (X:Vw):List Entry->List Entry->Bool
 | [],[]=>true
 | (a,b,n)::l,(a',b',m)::k=>sel (YT X a a') (sel (YT X b b') (sel (Nat.beq n m) (Tk X l k) false) false) false
 | _,_=>false
def EG (X:Vw):Zd->Zd->Bool
 | .cells cs e o,.cells ds f p=>sel (Nat.beq e f) (sel p (JQ X cs ds) (sel o false (JQ X cs ds))) false
 | .map es c,.map fs k=>sel (Nat.beq c k) (Tk X es fs) false
 | .opq i a,.opq j b=>sel (isN (X.g.get j) i) (X.tg a b) false
 | .map [] c,.opq j b=>sel (Zh9 (X.g.get j)) (sel (isN (X.e.get j) 0) (X.tm b) false) false
 | _,_=>false
def Zdk (X:Vw) (o:Option Zd) (b:Zd):Bool:=match o with
 | some c=>EG X c b
 | none=>false
def vB (X:Vw) (f:Tr Nat) (t:Tr Zd) (j:Nat) (b:Zd):Bool:=match X.g.get j with
 | some i=>sel (isN (f.get i) j) (Zdk X (t.get i) b) false
 | none=>false
def Cm (X:Vw) (f:Tr Nat) (t:Tr Zd):List (Nat×Zd)->Bool
 | []=>true
 | (j,b)::l=>sel (vB X f t j b) (Cm X f t l) false
def Tl (n:Nat):List (Nat×Nat)->Bool
 | []=>true
 | (j,_)::l=>sel (Nat.blt j n) (Tl n l) false
end
variable {P:Program}
theorem Je {u v:Bool} (h:sel u v false=true):u=true/\v=true:=by
 cases u
 ·cases h
 ·exact ⟨rfl,h⟩
theorem WW {o:Option Nat} {i:Nat} (h:isN o i=true):o=some i:=by
 cases o with
 | none=>cases h
 | some k=>rw [show k=i from Nat.eq_of_beq_eq_true h]
theorem EH {o:Option Nat} (h:Zh9 o=true):o=none:=by cases o with
 | none=>rfl
 | some _=>cases h
theorem P3 {S S':Sig} {z:Bool} {d k c a b c' a' b':Int} (h:Za5 z d k c a b c' a' b'=true) (hz:z=true->S'.x=0) (hd:z=false->S'.x=S.x+d) (hk:S'.y=k):c+a*S.x+b*S.y=c'+a'*S'.x+b'*S'.y:=by
 have t:∀ {u v:Bool},sel u v false=true->u=true/\v=true:=fun {u v} h=>by cases u; cases h; exact ⟨rfl,h⟩
 have e:∀ {u v:Int},ieq u v=true->u=v:=fun {u v} h=>by
  cases u <;> cases v <;> first | (cases h; done) | exact congrArg _ (Nat.eq_of_beq_eq_true h)
 unfold Za5 at h;cases z
 ·have h:sel (ieq a a') (sel (ieq b (.ofNat 0)) (ieq (c'+a*d+b'*k) c) false) false=true:=h;have hd:=hd rfl;obtain ⟨h1,h⟩:=t h;obtain ⟨h2,h4⟩:=t h;have h1:=e h1;have h2:b=0:=e h2;have h4:=e h4;subst h1 h2;rw [hd,hk,Int.mul_add];omega
 ·have h:sel (ieq a (.ofNat 0)) (sel (ieq b (.ofNat 0)) (ieq c (c'+b'*k)) false) false=true:=h;have hz:=hz rfl;obtain ⟨h1,h⟩:=t h;obtain ⟨h2,h4⟩:=t h;have h1:a=0:=e h1;have h2:b=0:=e h2;have h4:=e h4;subst h1 h2 h4;rw [hz,hk];omega
section
variable {S S':Sig} (X:Vw) (r q:Rho)
structure Zia:Prop where
 hz:X.z=true->S'.x=0
 hd:X.z=false->S'.x=S.x+X.d
 hk:S'.y=X.k
 old:∀ j i x,X.g.get j=some i->r i=some x->q j=some x
 emp:∀ j,X.g.get j=none->X.e.get j=some 0->∃ x g,q j=some x/\x.gho=some g/\g.val = .slice none 0 0/\∀ b,X.te b=true->S'.Q6 b g.R9 g.made (.slice none 0 0)
 sig:∀ a b,X.tg a b=true->∀ F w v,S.Q6 a F w v->S'.Q6 b F w v
 ZlD:∀ a b,X.tg a b=true->∀ F w o,S.Xg a F w o->S'.Xg b F w o
 ZlE:∀ j,X.g.get j=none->X.e.get j=some 0->∃ x g,q j=some x/\x.gho=some g/\∀ b,X.tm b=true->∀ c,S'.Xg b g.R9 g.made (.map #[] c)
variable {X r q} (hX:@Zia S S' X r q)
include hX
mutual
theorem Si:∀ (x y:Zb) (u:Value),YT X x y=true->@VR S r x u->@VR S' q y u
 | .int j a,y,u,h,hv=>by
  cases y <;> first
   | (cases h; done)
   | (
     rename_i k b;obtain ⟨h1,h2⟩:=Je h;have h1:=@JC S j k h1;subst h1;have h3:=P3 (S:=S) (S':=S') h2 hX.hz hX.hd hX.hk;cases hv
     have h4:a=b:=by
      have e1:a+(Int.ofNat 0)*S.x+(Int.ofNat 0)*S.y=a:=by show a+0*S.x+0*S.y=a; omega
      have e2:b+(Int.ofNat 0)*S'.x+(Int.ofNat 0)*S'.y=b:=by show b+0*S'.x+0*S'.y=b; omega
      rw [e1,e2] at h3;exact h3
     subst h4
     exact @VR.int S' q j a)
   | (
     rename_i k c' a' b';obtain ⟨h1,h2⟩:=Je h;have h1:=@JC S j k h1;subst h1;have h3:=P3 (S:=S) (S':=S') h2 hX.hz hX.hd hX.hk;cases hv;refine @VR.sint S' q j c' a' b' a ?_;have e1:a+(Int.ofNat 0)*S.x+(Int.ofNat 0)*S.y=a:=by show a+0*S.x+0*S.y=a; omega
     rw [e1] at h3
     exact h3)
 | .sint j c a b,y,u,h,hv=>by
  cases y <;> first
   | (cases h; done)
   | (
     rename_i k n;obtain ⟨h1,h2⟩:=Je h;have h1:=@JC S j k h1;subst h1;have h3:=P3 (S:=S) (S':=S') h2 hX.hz hX.hd hX.hk;cases hv;rename_i m hm;have e2:n+(Int.ofNat 0)*S'.x+(Int.ofNat 0)*S'.y=n:=by show n+0*S'.x+0*S'.y=n; omega
     rw [e2,<- hm] at h3;subst h3
     exact @VR.int S' q j m)
   | (
     rename_i k c' a' b';obtain ⟨h1,h2⟩:=Je h;have h1:=@JC S j k h1;subst h1;have h3:=P3 (S:=S) (S':=S') h2 hX.hz hX.hd hX.hk;cases hv;rename_i m hm
     exact @VR.sint S' q j c' a' b' m (hm.trans h3))
 | .bool a,y,u,h,hv=>by
  cases y <;> first | (cases h; done) | (have h:Nd _ _=true:=h; rw [@Rc S] at h; have h:=eq_of_beq h; subst h; cases hv; exact @VR.bool S' q _)
 | .flt j a,y,u,h,hv=>by
  cases y <;> first | (cases h; done) | (obtain ⟨h1,h2⟩:=Je h; have h1:=@Re S _ _ h1; have h2:=Nat.eq_of_beq_eq_true h2; subst h1 h2; cases hv; exact @VR.flt S' q _ _)
 | .Z3 j a c,y,u,h,hv=>by
  cases y <;> first | (cases h; done) | (obtain ⟨h1,h2⟩:=Je h; obtain ⟨h2,h3⟩:=Je h2; have h1:=@Re S _ _ h1; have h2:=Nat.eq_of_beq_eq_true h2; have h3:=Nat.eq_of_beq_eq_true h3; subst h1 h2 h3; cases hv; exact @VR.Z3 S' q _ _ _)
 | .str a,y,u,h,hv=>by
  cases y <;> first | (cases h; done) | (have h:QH _ _=true:=h; rw [@Qn S] at h; have h:=eq_of_beq h; subst h; cases hv; exact @VR.str S' q _)
 | .Zp,y,u,h,hv=>by cases y <;> first | (cases h; done) | (cases hv; exact @VR.Zp S' q)
 | .ptr i a,y,u,h,hv=>by
  cases y <;> first | (cases h; done) | (obtain ⟨h1,h2⟩:=Je h; have h1:=WW h1; have h2:=Nat.eq_of_beq_eq_true h2; subst h2; cases hv; rename_i hx; exact @VR.ptr S' q _ _ _ (hX.old _ _ _ h1 hx))
 | .Za,y,u,h,hv=>by
  cases y <;> first
   | (cases h; done)
   | (cases hv; exact @VR.Za S' q)
   | (
     rename_i j b;obtain ⟨h1,h2⟩:=Je h;obtain ⟨h2,h3⟩:=Je h2;obtain ⟨x,g,e1,e2,e3,e4⟩:=hX.emp j (EH h1) (WW h2);cases hv
     exact @VR.gho S' q j b x g _ e1 e2 e3 (e4 b h3))
 | .Z5,y,u,h,hv=>by cases y <;> first | (cases h; done) | (cases hv; exact @VR.Z5 S' q _ _)
 | .slice i a n c,y,u,h,hv=>by
  cases y with
  | slice j b m e =>
   cases c <;> cases e
   ·obtain ⟨h1,h2⟩:=Je h;obtain ⟨h2,h3⟩:=Je h2;have h1:=WW h1;have h2:=Nat.eq_of_beq_eq_true h2;have h3:=Nat.eq_of_beq_eq_true h3;subst h2 h3;cases hv with
    | slice hx hn hc hu=>exact @VR.slice S' q _ _ _ _ _ _ (hX.old _ _ _ h1 hx) hn hc hu
   ·cases h
   ·cases h
   ·obtain ⟨h1,h2⟩:=Je h;obtain ⟨h2,h3⟩:=Je h2;obtain ⟨h3,h4⟩:=Je h3;have h1:=WW h1;have h2:=Nat.eq_of_beq_eq_true h2;have h3:=Nat.eq_of_beq_eq_true h3;have h4:=Nat.eq_of_beq_eq_true h4;subst h2 h3 h4;cases hv with
    | slice hx hn hc hu=>exact @VR.slice S' q _ _ _ _ _ _ (hX.old _ _ _ h1 hx) hn hc hu
  | _=>cases c <;> cases h
 | .Zi,y,u,h,hv=>by cases y <;> first | (cases h; done) | (cases hv; exact @VR.Zi S' q)
 | .map i,y,u,h,hv=>by
  cases y <;> first | (cases h; done) | (have h1:=WW h; cases hv; rename_i hx; exact @VR.map S' q _ _ (hX.old _ _ _ h1 hx))
 | .func f a b,y,u,h,hv=>by
  cases y with
  | func g a' b' =>
   obtain ⟨h1,h2⟩:=Je (show sel (Nat.beq f g) (sel (JQ X a a') (JQ X b b') false) false=true from h);obtain ⟨h2,h3⟩:=Je h2;have h1:=Nat.eq_of_beq_eq_true h1;subst h1;cases hv with
   | func _ ha hb=>exact @VR.func S' q _ _ _ _ _ (Yo a a' _ h2 ha) (Yo b b' _ h3 hb)
  | _=>cases h
 | .ZJ,y,u,h,hv=>by cases y <;> first | (cases h; done) | (cases hv; exact @VR.ZJ S' q)
 | .nilIface,y,u,h,hv=>by cases y <;> first | (cases h; done) | (cases hv; exact @VR.nilIface S' q)
 | .iface t a,y,u,h,hv=>by
  cases y with
  | iface k b =>
   obtain ⟨h1,h2⟩:=Je (show sel (Nat.beq t k) (YT X a b) false=true from h);have h1:=Nat.eq_of_beq_eq_true h1;subst h1;cases hv with
   | iface _ hb=>exact @VR.iface S' q _ _ _ (Si a b _ h2 hb)
  | _=>cases h
 | .agg a,y,u,h,hv=>by
  cases y with
  | agg b =>
   cases hv with
   | agg hb=>exact @VR.agg S' q _ _ (Yo a b _ h hb)
  | _=>cases h
 | .tuple a,y,u,h,hv=>by
  cases y with
  | tuple b =>
   cases hv with
   | tuple hb=>exact @VR.tuple S' q _ _ (Yo a b _ h hb)
  | _=>cases h
 | .raw _,y,u,h,hv=>by cases y <;> cases h
 | .gho i a,y,u,h,hv=>by
  cases y <;> first
   | (cases h; done)
   | (
     rename_i j b;obtain ⟨h1,h2⟩:=Je h;have h1:=WW h1;cases hv with
     | gho hx hg hu hm=>exact @VR.gho S' q _ _ _ _ _ (hX.old _ _ _ h1 hx) hg hu (hX.sig _ _ h2 _ _ _ hm))
theorem Yo:∀ (x y:List Zb) (u:List Value),JQ X x y=true->@VRs S r x u->@VRs S' q y u
 | [],[],_,_,hv=>by cases hv; exact @VRs.nil S' q
 | [],_::_,_,h,_=>by simp [JQ] at h
 | _::_,[],_,h,_=>by simp [JQ] at h
 | x::xs,y::ys,u,h,hv=>by
  obtain ⟨h1,h2⟩:=Je (show sel (YT X x y) (JQ X xs ys) false=true from (by simpa only [JQ] using h));cases hv with
  | cons ha hb=>exact @VRs.cons S' q _ _ _ _ (Si x y _ h1 ha) (Yo xs ys _ h2 hb)
end
theorem EI:∀ (x y:List Entry) (u:List MapEntry),Tk X x y=true->@ERs S r x u->@ERs S' q y u
 | [],[],_,_,hv=>by cases hv; exact @ERs.nil S' q
 | [],_::_,_,h,_=>by simp [Tk] at h
 | _::_,[],_,h,_=>by simp [Tk] at h
 | (a,b,n)::l,(a',b',m)::k,u,h,hv=>by
  obtain ⟨h1,h⟩:=Je (show sel (YT X a a') (sel (YT X b b') (sel (Nat.beq n m) (Tk X l k) false) false) false=true from (by simpa only [Tk] using h));obtain ⟨h2,h⟩:=Je h;obtain ⟨h3,h4⟩:=Je h;have h3:=Nat.eq_of_beq_eq_true h3;subst h3;cases hv with
  | cons hh ht=>exact @ERs.cons S' q _ _ _ _ ⟨Si hX a a' _ h1 hh.1,Si hX b b' _ h2 hh.2.1,hh.2.2⟩ (EI l k _ h4 ht)
theorem Zib:∀ (b c:Zd) (x:RB) (o:Obj),EG X b c=true->@BR S r b x o->@BR S' q c x o
 | .cells cs e o,.cells ds f p,x,ob,h,hb=>by
  obtain ⟨h1,hq⟩:=Je h;have h1:=Nat.eq_of_beq_eq_true h1;subst h1;obtain ⟨h0,vs,rest,t,fr,h4,h5,h6,h7,h8⟩:=hb
  have h2:JQ X cs ds=true/\(p=false->o=false):=by
   cases p
   ·cases o
    ·exact ⟨hq,fun _=>rfl⟩
    ·cases hq
   ·exact ⟨hq,fun h=>by cases h⟩
  exact ⟨h0,vs,rest,t,fr,h4,Yo hX cs ds _ h2.1 h5,h6,fun hp=>h7 (h2.2 hp),h8⟩
 | .map es c,.map fs k,x,ob,h,hb=>by
  obtain ⟨h1,h2⟩:=Je h;have h1:=Nat.eq_of_beq_eq_true h1;subst h1;obtain ⟨l,h3,h4⟩:=hb;exact ⟨l,h3,EI hX es fs _ h2 h4⟩
 | .cells _ _ _,.map _ _,_,_,h,_=>by cases h
 | .cells _ _ _,.mapIter _ _ _ _,_,_,h,_=>by cases h
 | .map _ _,.cells _ _ _,_,_,h,_=>by cases h
 | .map _ _,.mapIter _ _ _ _,_,_,h,_=>by cases h
 | .mapIter _ _ _ _,.cells _ _ _,_,_,h,_=>by cases h
 | .mapIter _ _ _ _,.map _ _,_,_,h,_=>by cases h
 | .mapIter _ _ _ _,.mapIter _ _ _ _,_,_,h,_=>by cases h
 | .opq i a,.opq j b,x,ob,h,hb=>by
  obtain ⟨h1,h2⟩:=Je h;obtain ⟨y,g,h3,h4,h5⟩:=hb;exact ⟨y,g,hX.old _ _ _ (WW h1) h3,h4,hX.ZlD _ _ h2 _ _ _ h5⟩
 | .map [] c,.opq j b,x,ob,h,hb=>by
  obtain ⟨h1,h⟩:=Je h;obtain ⟨h2,h3⟩:=Je h;obtain ⟨l,h4,h5⟩:=hb;cases h5;subst h4;obtain ⟨y,g,e1,e2,e3⟩:=hX.ZlE j (EH h1) (WW h2);exact ⟨y,g,e1,e2,e3 b h3 c⟩
 | .map (_::_) _,.opq _ _,_,_,h,_=>by cases h
 | .cells _ _ _,.opq _ _,_,_,h,_=>by cases h
 | .mapIter _ _ _ _,.opq _ _,_,_,h,_=>by cases h
 | .opq _ _,.cells _ _ _,_,_,h,_=>by cases h
 | .opq _ _,.map _ _,_,_,h,_=>by cases h
 | .opq _ _,.mapIter _ _ _ _,_,_,h,_=>by cases h
end
theorem Cn {X:Vw} {f:Tr Nat} {t:Tr Zd}:∀ {l:List (Nat×Zd)},Cm X f t l=true->∀ j b,(j,b)∈l->∃ i c,X.g.get j=some i/\f.get i=some j/\t.get i=some c/\EG X c b=true
 | [],_,_,_,h=>by cases h
 | (k,c)::l,h,j,b,hm=>by
  obtain ⟨h1,h2⟩:=Je (show sel (vB X f t k c) (Cm X f t l) false=true from h);rcases List.mem_cons.1 hm with hm | hm
  ·cases hm;unfold vB at h1;split at h1
   ·rename_i i hi;obtain ⟨h3,h4⟩:=Je h1;unfold Zdk at h4;split at h4
    ·rename_i c' hc; exact ⟨i,c',hi,WW h3,hc,h4⟩
    ·cases h4
   ·cases h1
  ·exact Cn h2 j b hm
theorem Sj {n:Nat}:∀ {l:List (Nat×Nat)},Tl n l=true->∀ j i,(j,i)∈l->j<n
 | [],_,_,_,h=>by cases h
 | (k,c)::l,h,j,b,hm=>by
  obtain ⟨h1,h2⟩:=Je (show sel (Nat.blt k n) (Tl n l) false=true from h);rcases List.mem_cons.1 hm with hm | hm
  ·cases hm;exact Nat.le_of_ble_eq_true h1
  ·exact Sj h2 j b hm
def rD (w:World):RB:=⟨0,0,0,some { val := .slice none 0 0,one:=rfl,nob:=(fun b h=>by cases h),R9:=fun _=>False,made:=w }⟩
noncomputable def Ky (X:Vw) (r:Rho) (w:World):Rho:=fun j=>match X.g.get j with
 | some i=>r i
 | none=>match X.e.get j with
  | some 0=>some (rD w)
  | _=>none
theorem Co {S S':Sig} {X:Vw} {f:Tr Nat} {L:List (Nat×Zd)} {gl el:List (Nat×Nat)} {n:Nat} {r:Rho} {s:St} {w:World}
  (h:@Rel S r s w) (hg:X.g=Z9 gl .lf) (he:X.e=Z9 el .lf) (hL:Cm X f s.heap L=true) (hb1:Tl n gl=true) (hb2:Tl n el=true)
  (hz:X.z=true->S'.x=0) (hd:X.z=false->S'.x=S.x+X.d) (hk:S'.y=X.k) (jP:∀ a b,X.tg a b=true->∀ F w v,S.Q6 a F w v->S'.Q6 b F w v)
  (hte:∀ b,X.te b=true->S'.Q6 b (fun _=>False) w (.slice none 0 0)) (hto:∀ a b,X.tg a b=true->∀ F w o,S.Xg a F w o->S'.Xg b F w o) (lu:∀ b,X.tm b=true->∀ c,S'.Xg b (fun _=>False) w (.map #[] c)) :
  @Zia S S' X r (Ky X r w)/\@Rel S' (Ky X r w) ⟨Z9 L .lf,n⟩ w/\(∀ k,Hit (Ky X r w) ⟨Z9 L .lf,n⟩ k->Hit r s k)/\∀ k,Jz (Ky X r w) k->Jz r k:=by
 obtain ⟨⟨hblk,aap⟩,hap,hkn,hsf⟩:=h;have hold:∀ j i x,X.g.get j=some i->r i=some x->Ky X r w j=some x:=fun j i x h1 h2=>by unfold Ky; rw [h1]; exact h2
 have eZ:∀ j i,X.g.get j=some i->Ky X r w j=r i:=fun j i h1=>by unfold Ky; rw [h1]
 have hV:@Zia S S' X r (Ky X r w):=⟨hz,hd,hk,hold,fun j h1 h2=>⟨rD w,_,by unfold Ky; rw [h1,h2]; rfl,rfl,rfl,hte⟩,jP,hto,fun j h1 h2=>⟨rD w,_,by unfold Ky; rw [h1,h2]; rfl,rfl,lu⟩⟩
 have hbl:∀ j b,(⟨Z9 L .lf,n⟩:St).get j=some b->∃ i c,X.g.get j=some i/\f.get i=some j/\s.get i=some c/\EG X c b=true:=fun j b h1=>Cn hL j b (Jy h1);have hlt:∀ j i,X.g.get j=some i->j<n:=fun j i h1=>Sj hb1 j i (Jy (hg▸h1));have hlt2:∀ j i,X.e.get j=some i->j<n:=fun j i h1=>Sj hb2 j i (Jy (he▸h1))
 have hhit:∀ k,Hit (Ky X r w) ⟨Z9 L .lf,n⟩ k->Hit r s k:=fun k ⟨j,b,x,h1,h2,h3⟩=>by
  obtain ⟨i,c,e1,e2,e3,e4⟩:=hbl j b h1;rw [eZ j i e1] at h2;exact ⟨i,c,x,e3,h2,h3⟩
 have hgo:∀ j x g,Ky X r w j=some x->x.gho=some g->(∃ i,r i=some x)\/x=rD w:=fun j x g h1 h2=>by
  unfold Ky at h1;split at h1
  ·exact .inl ⟨_,h1⟩
  ·split at h1
   ·injection h1 with h1; exact .inr h1.symm
   ·cases h1
 refine ⟨hV,@Rel.mk S' _ _ _ (@RelB.mk S' _ _ _ (fun j b x h1 h2 => ?_) fun j hj => ?_) (fun i j b c x y h1 h2 hx hy hxy => ?_) (fun j x h1 => ?_) (fun j x g h1 h2 => ?_),hhit,fun k ⟨j,x,g,h1,h2,h3,h4⟩ => ?_⟩
 ·obtain ⟨i,c,e1,e2,e3,e4⟩:=hbl j b h1;rw [eZ j i e1] at h2;obtain ⟨o,h5,h6⟩:=hblk i c x e3 h2;exact ⟨o,h5,Zib hV c b x o e4 h6⟩
 ·cases hb:(⟨Z9 L .lf,n⟩:St).get j with
  | none=>rfl
  | some b =>
   obtain ⟨i,c,e1,_⟩:=hbl j b hb;have:=hlt j i e1;have hj:n<=j:=hj;omega
 ·obtain ⟨i',c1,e1,e2,e3,e4⟩:=hbl i b h1;obtain ⟨j',c2,f1,f2,f3,f4⟩:=hbl j c h2;rw [eZ i i' e1] at hx;rw [eZ j j' f1] at hy;have:=hap i' j' c1 c2 x y e3 f3 hx hy hxy;subst this;rw [e2] at f2;exact Option.some.inj f2
 ·show j<n;cases hj:X.g.get j with
  | some i=>exact hlt j i hj
  | none =>
   cases hk:X.e.get j with
   | some i=>exact hlt2 j i hk
   | none =>
    unfold Ky at h1;rw [hj,hk] at h1;cases h1
 ·rcases hgo j x g h1 h2 with ⟨i,hi⟩ | rfl
  ·exact (hsf i x g hi h2).step (Nat.le_refl _) (fun _ _ _=>rfl) fun k hk => .inl (hhit k hk)
  ·injection h2 with h2
   subst h2;exact ⟨Nat.le_refl _,fun k hk=>hk.elim⟩
 ·rcases hgo j x g h1 h2 with ⟨i,hi⟩ | rfl
  ·exact ⟨i,x,g,hi,h2,h3,h4⟩
  ·injection h2 with h2
   subst h2;exact h3.elim
end Ev
namespace Ev
open Go
section
variable [Sig] {P:Program} {r:Rho} {s:St} {w:World}
theorem Rel.Zf (hr:Rel r s w) {w':World} (hc:Chg (fun _=>False) w w'):Rel r s w':=(Ext.same hr hc).rel
theorem Hl (hr:Rel r s w) {u:Value} {F:Nat->Prop} {t:Nat} (h1:u.oneCell'=true) (h2:∀ b,u ≠ .bool b) (hF:∀ k,F k->¬ Hit r s k) (hm:Sig.Q6 t F w u) :
  ∃ q,Rel q s.Vy w/\r.le q/\VR q (.gho s.next t) u/\(∀ k,Hit q s.Vy k->Hit r s k)/\∀ k,Jz q k->Jz r k\/F k:=by
 let g:Gh:=⟨u,h1,h2,F,w⟩
 let x:RB:=⟨0,0,0,some g⟩
 have hle:r.le (r.at s.next x):=Rho.JU r x (hr.Z8 (Nat.le_refl _));have old:∀ {i},i≠s.next->(r.at s.next x) i=r i:=fun {i} h=>Rho.Zx r x h;have hlow:∀ {i b},s.get i=some b->(r.at s.next x) i=r i:=fun {i b} h=>old (by have:=hr.below h; omega)
 have hhit:∀ k,Hit (r.at s.next x) s.Vy k->Hit r s k:=fun k ⟨i,b,y,hb,hy,hk⟩=>by
  have hb:s.get i=some b:=hb;rw [hlow hb] at hy;exact ⟨i,b,y,hb,hy,hk⟩
 refine ⟨r.at s.next x,⟨⟨fun i b y hb hy => ?_,fun i hi => ?_⟩,fun i j b c y z hb hc hy hz bQ => ?_,fun i y hy => ?_,fun i y g' hy hg => ?_⟩,hle,.gho (Rho.Zn _ _ _) rfl rfl hm,hhit,fun k ⟨i,y,g',hy,hg,hf,hl⟩ => ?_⟩
 ·have hb:s.get i=some b:=hb;rw [hlow hb] at hy;obtain ⟨o,h3,h4⟩:=hr.block i b y hb hy;exact ⟨o,h3,h4.mono hle⟩
 ·have hi:s.next+1<=i:=hi;exact hr.far i (by omega)
 ·have hb:s.get i=some b:=hb;have hc:s.get j=some c:=hc;rw [hlow hb] at hy;rw [hlow hc] at hz;exact hr.apart i j b c y z hb hc hy hz bQ
 ·show i<s.next+1;by_cases hi:i=s.next
  ·omega
  ·rw [old hi] at hy;have:=hr.known i y hy;omega
 ·by_cases hi:i=s.next
  ·subst hi;rw [Rho.Zn] at hy;cases hy;cases hg;exact ⟨Nat.le_refl _,fun k hk hl=>⟨rfl,fun hh=>hF k hk (hhit k hh)⟩⟩
  ·rw [old hi] at hy;exact (hr.safe i y g' hy hg).step (Nat.le_refl _) (fun _ _ _=>rfl) fun k hk => .inl (hhit k hk)
 ·by_cases hi:i=s.next
  ·subst hi;rw [Rho.Zn] at hy;cases hy;cases hg;exact .inr hf
  ·rw [old hi] at hy;exact .inl ⟨i,y,g',hy,hg,hf,hl⟩
theorem Hm (hr:Rel r s w) {k e:Nat} {cs:List Zb} {vs:List Value} {t:TypeId} (ho:w.heap[k]? = some (.cells ⟨vs⟩ t (0,0))) (hv:VRs r cs vs) (hn:¬ Hit r s k) (hf:¬ Jz r k) :
  ∃ q,Rel q (s.new (.cells cs e false)) w/\r.le q/\q s.next=some (RB.of k vs.length e)/\(∀ j,Hit q (s.new (.cells cs e false)) j->Hit r s j\/j=k)/\∀ j,Jz q j->Jz r j:=by
 let x:RB:=RB.of k vs.length e
 have hle:r.le (r.at s.next x):=Rho.JU r x (hr.Z8 (Nat.le_refl _));have old:∀ {i},i≠s.next->(r.at s.next x) i=r i:=fun {i} h=>Rho.Zx r x h
 have two:∀ {i b y},(s.new (.cells cs e false)).get i=some b->(r.at s.next x) i=some y->(i=s.next/\b = .cells cs e false/\y=x)\/(i≠s.next/\s.get i=some b/\r i=some y):=fun {i b y} hb hy=>by
  rw [St.ZB] at hb;by_cases hi:s.next=i
  ·rw [if_pos hi] at hb;subst hi;rw [Rho.Zn] at hy;cases hb;cases hy;exact .inl ⟨rfl,rfl,rfl⟩
  ·rw [if_neg hi] at hb;rw [old (fun e=>hi e.symm)] at hy;exact .inr ⟨fun e=>hi e.symm,hb,hy⟩
 have hhit:∀ j,Hit (r.at s.next x) (s.new (.cells cs e false)) j->Hit r s j\/j=k:=fun j ⟨i,b,y,hb,hy,hk⟩=>by
  rcases two hb hy with ⟨_,_,rfl⟩ | ⟨_,h1,h2⟩
  ·exact .inr hk.symm
  ·exact .inl ⟨i,b,y,h1,h2,hk⟩
 refine ⟨r.at s.next x,⟨⟨fun i b y hb hy => ?_,fun i hi => ?_⟩,fun i j b c y z hb hc hy hz bQ => ?_,fun i y hy => ?_,fun i y g' hy hg => ?_⟩,hle,Rho.Zn _ _ _,hhit,fun j ⟨i,y,g',hy,hg,hf,hl⟩ => ?_⟩
 ·rcases two hb hy with ⟨rfl,rfl,rfl⟩ | ⟨_,h1,h2⟩
  ·exact ⟨_,ho,rfl,vs,[],t,(0,0),by rw [List.append_nil],hv.mono hle,by rw [List.append_nil],fun _=>rfl,fun i _ h=>by have:=h.2; simp at this⟩
  ·obtain ⟨o,h3,h4⟩:=hr.block i b y h1 h2;exact ⟨o,h3,h4.mono hle⟩
 ·have hi:s.next+1<=i:=hi;rw [St.ZB,if_neg (by omega)];exact hr.far i (by omega)
 ·rcases two hb hy with ⟨rfl,rfl,rfl⟩ | ⟨_,h1,h2⟩ <;> rcases two hc hz with ⟨rfl,rfl,rfl⟩ | ⟨_,h3,h4⟩
  ·rfl
  ·exact absurd ⟨j,c,z,h3,h4,bQ.symm⟩ hn
  ·exact absurd ⟨i,b,y,h1,h2,bQ⟩ hn
  ·exact hr.apart i j b c y z h1 h3 h2 h4 bQ
 ·show i<s.next+1;by_cases hi:i=s.next
  ·omega
  ·rw [old hi] at hy;have:=hr.known i y hy;omega
 ·by_cases hi:i=s.next
  ·subst hi;rw [Rho.Zn] at hy;cases hy;cases hg
  ·rw [old hi] at hy;obtain ⟨h1,h2⟩:=hr.safe i y g' hy hg;refine ⟨h1,fun j hj hl=>⟨(h2 j hj hl).1,fun hh => ?_⟩⟩;rcases hhit j hh with h3 | rfl
   ·exact (h2 j hj hl).2 h3
   ·exact hf ⟨i,y,g',hy,hg,hj,hl⟩
 ·by_cases hi:i=s.next
  ·subst hi;rw [Rho.Zn] at hy;cases hy;cases hg
  ·rw [old hi] at hy;exact ⟨i,y,g',hy,hg,hf,hl⟩
end
end Ev
section
open Go
namespace Ev
noncomputable section
def Cp:List (Nat×Nat)->Nat->Option Nat
 | [],_=>none
 | (x,y)::l,a=>sel (Nat.beq x a) (some y) (Cp l a)
def Hn:List (Nat×Nat×Nat)->Nat->Nat->Option Nat
 | [],_,_=>none
 | (x,y,z)::l,a,b=>sel (Nat.beq x a) (sel (Nat.beq y b) (some z) (Hn l a b)) (Hn l a b)
def Pe:List (Nat×Nat×Bool×Nat)->Nat->Nat->Bool->Option Nat
 | [],_,_,_=>none
 | (x,y,z,u)::l,a,b,c=>sel (Nat.beq x a) (sel (Nat.beq y b) (sel (Nd z c) (some u) (Pe l a b c)) (Pe l a b c)) (Pe l a b c)
def Cq:List (Nat×List Int)->Nat->Option (List Int)
 | [],_=>none
 | (x,y)::l,a=>sel (Nat.beq x a) (some y) (Cq l a)
def Cr (v:Bool) (l:List Nat) (a:Nat):Option Bool:=sel (WL a l) (some v) none
def Ho:List (Nat×Nat×Bool)->Nat->Nat->Option Bool
 | [],_,_=>none
 | (x,y,z)::l,a,b=>sel (Nat.beq x a) (sel (Nat.beq y b) (some z) (Ho l a b)) (Ho l a b)
def Hp:List (Nat×Nat×Nat×Nat)->Nat->Nat->Option (Nat×Nat)
 | [],_,_=>none
 | (x,y,z,u)::l,a,b=>sel (Nat.beq x a) (sel (Nat.beq y b) (some (z,u)) (Hp l a b)) (Hp l a b)
def lookW:List (Nat×List Nat×List (List UInt8×Nat))->Nat->Option (List Nat×List (List UInt8×Nat))
 | [],_=>none
 | (x,y)::l,a=>sel (Nat.beq x a) (some y) (lookW l a)
structure Tb where
 add:List (Nat×Nat×Nat):=[]
 put:List (Nat×Nat×Bool×Nat):=[]
 flip:List (Nat×Nat):=[]
 copy:List (Nat×Nat):=[]
 Za6:List Nat:=[]
 plain:List Nat:=[]
 Hq:List Nat:=[]
 Ct:List Nat:=[]
 rows:List (Nat×List Int):=[]
 kinds:List (Nat×List Int):=[]
 Za7:List (Nat×Nat×Bool):=[]
 kf:List (Nat×List Nat×List (List UInt8×Nat)):=[]
 chg:List (Nat×Nat×Nat×Nat):=[]
def glL (t:Tb):List (Nat×Orc):=[(112,Zhb (Hn t.add) (Pe t.put)),(113,Zc1 (Cp t.flip)),(40,Zc1 (Cp t.copy)),(172,T8 (Cr true t.Za6)),(161,T8 (Cr true t.plain)),
 (183,T8 (Cr false t.Hq)),(167,T8 (Cr false t.Ct)),(164,Zg9 (Cq t.rows)),(162,Zkf 163 175 (Cq t.kinds)),
 (166,oOf (Ho t.Za7)),(401,EF),(181,Zkl (lookW t.kf) (Hp t.chg))]
end
section
variable [Sig]
theorem Sk:∀ {l:List (Nat×Nat)} {a b:Nat},Cp l a=some b->(a,b)∈l
 | [],_,_,h=>by cases h
 | (x,y)::l,a,b,h=>by
  rcases Ze (show sel (Nat.beq x a) (some y) (Cp l a)=some b from h) with ⟨h1,h2⟩ | ⟨_,h2⟩
  ·cases h2; rw [Nat.eq_of_beq_eq_true h1]; exact List.mem_cons_self
  ·exact List.mem_cons_of_mem _ (Sk h2)
theorem Sl:∀ {l:List (Nat×Nat×Nat)} {a b c:Nat},Hn l a b=some c->(a,b,c)∈l
 | [],_,_,_,h=>by cases h
 | (x,y,z)::l,a,b,c,h=>by
  rcases Ze (show sel (Nat.beq x a) (sel (Nat.beq y b) (some z) (Hn l a b)) (Hn l a b)=some c from h) with ⟨h1,h2⟩ | ⟨_,h2⟩
  ·rcases Ze h2 with ⟨h3,h4⟩ | ⟨_,h4⟩
   ·cases h4; rw [Nat.eq_of_beq_eq_true h1,Nat.eq_of_beq_eq_true h3]; exact List.mem_cons_self
   ·exact List.mem_cons_of_mem _ (Sl h4)
  ·exact List.mem_cons_of_mem _ (Sl h2)
theorem Yp:∀ {l:List (Nat×Nat×Bool×Nat)} {a b:Nat} {c:Bool} {d:Nat},Pe l a b c=some d->(a,b,c,d)∈l
 | [],_,_,_,_,h=>by cases h
 | (x,y,z,u)::l,a,b,c,d,h=>by
  rcases Ze (show sel (Nat.beq x a) (sel (Nat.beq y b) (sel (Nd z c) (some u) (Pe l a b c)) (Pe l a b c)) (Pe l a b c)=some d from h) with ⟨h1,h2⟩ | ⟨_,h2⟩
  ·rcases Ze h2 with ⟨h3,h4⟩ | ⟨_,h4⟩
   ·rcases Ze h4 with ⟨h5,h6⟩ | ⟨_,h6⟩
    ·cases h6;rw [Rc] at h5;rw [Nat.eq_of_beq_eq_true h1,Nat.eq_of_beq_eq_true h3,eq_of_beq h5]; exact List.mem_cons_self
    ·exact List.mem_cons_of_mem _ (Yp h6)
   ·exact List.mem_cons_of_mem _ (Yp h4)
  ·exact List.mem_cons_of_mem _ (Yp h2)
theorem Sn:∀ {l:List (Nat×List Int)} {a:Nat} {b:List Int},Cq l a=some b->(a,b)∈l
 | [],_,_,h=>by cases h
 | (x,y)::l,a,b,h=>by
  rcases Ze (show sel (Nat.beq x a) (some y) (Cq l a)=some b from h) with ⟨h1,h2⟩ | ⟨_,h2⟩
  ·cases h2; rw [Nat.eq_of_beq_eq_true h1]; exact List.mem_cons_self
  ·exact List.mem_cons_of_mem _ (Sn h2)
theorem Sp:∀ {l:List (Nat×Nat×Nat×Nat)} {a b:Nat} {p:Nat×Nat},Hp l a b=some p->(a,b,p.1,p.2)∈l
 | [],_,_,_,h=>by cases h
 | (x,y,z,u)::l,a,b,p,h=>by
  rcases Ze (show sel (Nat.beq x a) (sel (Nat.beq y b) (some (z,u)) (Hp l a b)) (Hp l a b)=some p from h) with ⟨h1,h2⟩ | ⟨_,h2⟩
  ·rcases Ze h2 with ⟨h3,h4⟩ | ⟨_,h4⟩
   ·cases h4; rw [Nat.eq_of_beq_eq_true h1,Nat.eq_of_beq_eq_true h3]; exact List.mem_cons_self
   ·exact List.mem_cons_of_mem _ (Sp h4)
  ·exact List.mem_cons_of_mem _ (Sp h2)
theorem Hr:∀ {l:List (Nat×List Nat×List (List UInt8×Nat))} {a:Nat} {b:List Nat×List (List UInt8×Nat)},lookW l a=some b->(a,b)∈l
 | [],_,_,h=>by cases h
 | (x,y)::l,a,b,h=>by
  rcases Ze (show sel (Nat.beq x a) (some y) (lookW l a)=some b from h) with ⟨h1,h2⟩ | ⟨_,h2⟩
  ·cases h2; rw [Nat.eq_of_beq_eq_true h1]; exact List.mem_cons_self
  ·exact List.mem_cons_of_mem _ (Hr h2)
theorem Sq:∀ {l:List (Nat×Nat×Bool)} {a b:Nat} {c:Bool},Ho l a b=some c->(a,b,c)∈l
 | [],_,_,_,h=>by cases h
 | (x,y,z)::l,a,b,c,h=>by
  rcases Ze (show sel (Nat.beq x a) (sel (Nat.beq y b) (some z) (Ho l a b)) (Ho l a b)=some c from h) with ⟨h1,h2⟩ | ⟨_,h2⟩
  ·rcases Ze h2 with ⟨h3,h4⟩ | ⟨_,h4⟩
   ·cases h4; rw [Nat.eq_of_beq_eq_true h1,Nat.eq_of_beq_eq_true h3]; exact List.mem_cons_self
   ·exact List.mem_cons_of_mem _ (Sq h4)
  ·exact List.mem_cons_of_mem _ (Sq h2)
theorem JX {v:Bool} {l:List Nat} {a:Nat} {c:Bool} (h:Cr v l a=some c):a∈l/\c=v:=by
 rcases Ze (show sel (WL a l) (some v) none=some c from h) with ⟨h1,h2⟩ | ⟨_,h2⟩
 ·cases h2; exact ⟨Wr.1 h1,rfl⟩
 ·cases h2
end
structure Zdm (M:Nat->Mn) (t:Tb):Prop where
 nz:M 0 = .nz
 add:∀ a b c,(a,b,c)∈t.add->∃ S S' bD,M a = .set S/\M b = .set S'/\M c = .set bD/\Sm bD/\∀ r,nf bD r=nf S r+nf S' r
 put:∀ a r b c,(a,r,b,c)∈t.put->∃ S l bD,M a = .set S/\M r = .row l/\M c = .set bD/\Sm bD/\∀ r,nf bD r=nf S r+if l=r then (if b then 1 else -1) else 0
 flip:∀ a c,(a,c)∈t.flip->∃ S S',M a = .set S/\M c = .set S'/\Sm S/\Sm S'/\∀ r,nf S' r = - nf S r
 copy:∀ a c,(a,c)∈t.copy->∃ S,M a = .set S/\M c = .set S/\Sm S
 Za6:∀ a∈t.Za6,∃ S,M a = .set S
 plain:∀ a∈t.plain,∃ S,M a = .set S/\∀ p∈S,0<=p.2
 Hq:∀ a∈t.Hq,∃ S,M a = .set S/\ZW (Zl S)<513
 Ct:∀ a∈t.Ct,∃ S,M a = .set S/\ZW (Zl S)<64
 rows:∀ a ks,(a,ks)∈t.rows->∃ l,M a = .row l/\l.map (·.k)=ks
 kinds:∀ a ks,(a,ks)∈t.kinds->∃ S,M a = .set S/\∀ p∈S,p.1.map (·.k)=ks
 Za7:∀ a r b,(a,r,b)∈t.Za7->∃ S l,M a = .set S/\M r = .row l/\(b=true↔Jj S l≠0) /\ -1000000<=Jj S l/\Jj S l<=1000000
 chg:∀ a kf d a' o,(a,kf)∈t.kf->(a,d,a',o)∈t.chg->∃ I D I' O,M a = .obj (Wq kf.1 (YJ kf.2) I)/\M d = .set D/\M a' = .obj (Wq kf.1 (YJ kf.2) I')/\M o = .set O/\T5 kf.1 (YJ kf.2) I D I' O
 Xg:∀ a φ,M a = .obj φ -> ∀ F w o,φ F w o->∃ es c,o = .map es c
theorem Zkm [Sig] {M:Nat->Mn} (hM:Sig.Q6=QL M) (hO:Sig.Xg=Kw M) {t:Tb} (ok:Zdm M t):∀ x∈glL t,Qc prog x.1 x.2:=by
 intro x hx;simp only [glL,List.mem_cons,List.not_mem_nil,or_false] at hx;rcases hx with rfl | rfl | rfl | rfl | rfl | rfl | rfl | rfl | rfl | rfl | rfl | rfl
 ·exact Ul hM (fun a b c h=>ok.add a b c (Sl h)) (fun a r b c h=>ok.put a r b c (Yp h)) func112 (by kernel_rfl) rfl
 ·exact Ug hM (fun a c h=>ok.flip a c (Sk h)) func113 (by kernel_rfl) rfl
 ·exact Uh hM (fun a c h=>ok.copy a c (Sk h)) func40 (by kernel_rfl) rfl
 ·exact Cd hM (fun a c h=>⟨(JX h).2,ok.Za6 a (JX h).1⟩) func172 (by kernel_rfl) rfl
 ·exact Ce hM (fun a c h=>⟨(JX h).2,ok.plain a (JX h).1⟩) func161 (by kernel_rfl) rfl
 ·exact Cf hM (fun a c h=>⟨(JX h).2,ok.Hq a (JX h).1⟩) func183 (by kernel_rfl) rfl
 ·exact Cg hM (fun a c h=>⟨(JX h).2,ok.Ct a (JX h).1⟩) func167 (by kernel_rfl) rfl
 ·exact Uj hM (fun a c h=>ok.rows a c (Sn h)) func164 (by kernel_rfl) rfl
 ·exact Za2 hM (fun a c h=>ok.kinds a c (Sn h)) func162 (by kernel_rfl) rfl (fun _ _=>call163 _ _) (fun _ _=>call175 _ _)
 ·exact Zdg hM ok.nz (fun a r b h=>ok.Za7 a r b (Sq h)) func166 (by kernel_rfl) rfl
 ·exact Fi func401 (by kernel_rfl) (by kernel_rfl) (by kernel_rfl) (by kernel_rfl) fun t F w o h=>by
   rw [hO] at h;unfold Kw at h;split at h
   ·rename_i φ hm;exact ok.Xg _ φ hm F w o h
   ·cases h
 ·exact Za4 hM hO (fun a d kf p h1 h2=>ok.chg a kf d p.1 p.2 (Hr h1) (Sp h2)) func181 (by kernel_rfl) rfl
end Ev
end
namespace Ev
open Go
noncomputable section
def Za8 (n:Nat):Vc:=fun i=>some (i+n)
def upL (n:Nat):List (Nat×Zd)->Option (List (Nat×Zd))
 | []=>some []
 | (i,b)::l=>match R4 (Za8 n) b,upL n l with
  | some b,some l=>some ((i+n,b)::l)
  | _,_=>none
def Zdn (s:St) (m:Nat) (v:Option Zb) (post:Option (List (Nat×Zd))):R:=match v,post with
 | some v,some post => .ok v ⟨Z9 post s.heap,s.next+m⟩
 | _,_ => .bad
def Zhe:Vc:=fun _=>none
def Fj (l:List Zb) (o:Option (List Zb)):Bool:=match o with
 | some k=>JO l k
 | none=>false
def upR (args:List Zb) (s:St):List Ent->R
 | [] => .bad
 | e::l=>sel (Fj e.args (YP Zhe args)) (Zdn s e.m (TM (Za8 s.next) e.v) (upL s.next e.post)) (upR args s l)
def upO (T:List Ent):Orc:=⟨fun args s=>upR args s T⟩
def Cu (e:Ent):Bool:=match e.pre with
 | []=>sel (Nat.beq e.n 0) (Za9 e.S' e.post) false
 | _=>false
end
variable [Sig] {P:Program}
theorem EJ {n:Nat}:∀ {l l':List (Nat×Zd)},upL n l=some l'->∀ {j:Nat} {b':Zd},(j,b')∈l'->∃ i b,j=i+n/\(i,b)∈l/\R4 (Za8 n) b=some b'
 | [],l',h,j,b',hm=>by cases h; cases hm
 | (i,b)::l,l',h,j,b',hm=>by
  simp only [upL] at h;split at h
  ·rename_i c k h1 h2;cases h;rcases List.mem_cons.1 hm with hm | hm
   ·cases hm;exact ⟨i,b,rfl,List.mem_cons_self,h1⟩
   ·obtain ⟨i',b0,h3,h4,h5⟩:=EJ h2 hm;exact ⟨i',b0,h3,List.mem_cons_of_mem _ h4,h5⟩
  ·cases h
theorem Zdo {e:Ent} (h:Cu e=true):e.pre=[]/\e.n=0/\Za9 e.S' e.post=true:=by
 unfold Cu at h;split at h
 ·rename_i hp;obtain ⟨h1,h2⟩:=ZE h;exact ⟨hp,ZD h1,h2⟩
 ·cases h
def Rho.up (r q:Rho) (n:Nat):Rho:=fun i=>if i<n then r i else q (i-n)
theorem vC {f:FuncId}:∀ {T:List Ent},(∀ e∈T,e.f=f/\Cu e=true/\DV P e)->Qc P f (upO T)
 | [],_=>fun args s v s' h=>by cases h
 | e::T,hT=>fun args s v s' h r w us hr hv=>by
  have h:sel (Fj e.args (YP Zhe args)) (Zdn s e.m (TM (Za8 s.next) e.v) (upL s.next e.post)) (upR args s T) = .ok v s':=h;rcases Ze h with ⟨h1,h⟩ | ⟨_,h⟩
  ·obtain ⟨rfl,hfree,he⟩:=hT e List.mem_cons_self;obtain ⟨hp,hn,hall⟩:=Zdo hfree
   have hargs:VRs (fun _=>none) e.args us:=by
    unfold Fj at h1;split at h1
    ·rename_i k hk;rw [JY _ _ h1];exact hv.ren (fun i j x hg _=>by cases hg) hk
    ·cases h1
   have hS:∀ i,e.S.get i=none:=fun i=>by
    unfold Ent.S;rw [hp];exact Tm i
   have mE:e.S.next=0:=hn;have h0:Rel (fun _=>none) e.S w:=⟨⟨fun i b x hb hx=>(by cases hx),fun i _=>hS i⟩,fun i j b c x y hb hc hx=>(by cases hx),fun i x hx=>(by cases hx),fun i x g hx=>(by cases hx)⟩
   unfold Zdn at h;split at h
   ·rename_i v1 post hv1 hpost;cases h;refine (he _ w us h0 hargs).mono fun u w' ⟨q,hx,aR⟩=>⟨r.up q s.next,?_,?_⟩
    ·have hS':∀ i b,(i,b)∈e.post->e.S'.get i=some b:=fun i b hm=>TR hall i b hm;have hfr:∀ k,k<w.heap.size->w'.heap[k]? = w.heap[k]? := fun k hk=>hx.frame k hk fun ⟨i,b,x,_,hx,_⟩=>(by cases hx)
     have vD:LZ q (Za8 s.next) (r.up q s.next):=fun i j x hg hxi=>by
      cases hg;show (if i+s.next<s.next then r (i+s.next) else q (i+s.next-s.next))=_;rw [if_neg (by omega),Nat.add_sub_cancel];exact hxi
     have low:∀ {i},i<s.next->(r.up q s.next) i=r i:=fun {i} hi=>if_pos hi
     have high:∀ {i},(r.up q s.next) (i+s.next)=q i:=fun {i}=>by
      show (if i+s.next<s.next then r (i+s.next) else q (i+s.next-s.next))=_;rw [if_neg (by omega),Nat.add_sub_cancel]
     have hle:r.le (r.up q s.next):=fun i x hi=>by rw [low (hr.known i x hi)]; exact hi
     have two:∀ i b,(⟨Z9 post s.heap,s.next+e.m⟩:St).get i=some b->(i<s.next/\s.get i=some b)\/∃ j b0,i=j+s.next/\e.S'.get j=some b0/\j<e.m/\R4 (Za8 s.next) b0=some b:=fun i b hb=>by
      have hb:(Z9 post s.heap).get i=some b:=hb;rcases Nf post s.heap i b hb with h2 | h2
      ·obtain ⟨j,b0,rfl,h3,h4⟩:=EJ hpost h2;have h5:=hS' j b0 h3;exact .inr ⟨j,b0,rfl,h5,hx.rel.below h5,h4⟩
      ·exact .inl ⟨hr.below h2,h2⟩
     have iD:∀ {i b x},s.get i=some b->r i=some x->x.blk<w.heap.size:=fun {i b x} hb hx=>by
      obtain ⟨o,h2,_⟩:=hr.block i b x hb hx;exact (Array.getElem?_eq_some_iff.1 h2).1
     have fe:∀ {j b x},e.S'.get j=some b->q j=some x->w.heap.size<=x.blk:=fun {j b x} hb hxj=>by
      rcases hx.XP x.blk ⟨j,b,x,hb,hxj,rfl⟩ with ⟨i,b',x',h2,_⟩ | h2
      ·rw [hS i] at h2; cases h2
      ·exact h2
     refine ⟨⟨⟨fun i b x hb hxi => ?_,fun i hi => ?_⟩,fun i j b c x y hb hc hxi hyj hxy => ?_,fun i x hxi => ?_,fun i x g hxi hg => ?_⟩,hle,by show s.next<=s.next+e.m; omega,hx.os,hx.tape,hx.output,hx.size,fun k hk _=>hfr k hk,fun i hi _ b hb => ?_,fun i hi hg => ?_,fun k ⟨i,b,x,hb,hxi,hk⟩ => ?_,fun i fU hq => ?_,fun k ⟨i,x,g,hxi,hg,hf,hl⟩ => ?_⟩
     ·rcases two i b hb with ⟨h2,h3⟩ | ⟨j,b0,rfl,h3,_,h4⟩
      ·rw [low h2] at hxi;obtain ⟨o,h5,h6⟩:=hr.block i b x h3 hxi;exact ⟨o,by rw [hfr _ (iD h3 hxi)]; exact h5,h6.mono hle⟩
      ·rw [high] at hxi;obtain ⟨o,h5,h6⟩:=hx.rel.block j b0 x h3 hxi;exact ⟨o,h5,h6.ren vD h4⟩
     ·have hi:s.next+e.m<=i:=hi;cases hb:(⟨Z9 post s.heap,s.next+e.m⟩:St).get i with
      | none=>rfl
      | some b =>
       rcases two i b hb with ⟨h2,_⟩ | ⟨j,b0,rfl,_,h2,_⟩ <;> omega
     ·rcases two i b hb with ⟨h2,h3⟩ | ⟨i0,b0,rfl,h3,_,h4⟩ <;> rcases two j c hc with ⟨h5,h6⟩ | ⟨j0,c0,rfl,h6,_,h7⟩
      ·rw [low h2] at hxi;rw [low h5] at hyj;exact hr.apart i j b c x y h3 h6 hxi hyj hxy
      ·rw [low h2] at hxi;rw [high] at hyj;have:=iD h3 hxi;have:=fe h6 hyj;omega
      ·rw [high] at hxi;rw [low h5] at hyj;have:=fe h3 hxi;have:=iD h6 hyj;omega
      ·rw [high] at hxi hyj;rw [hx.rel.apart i0 j0 b0 c0 x y h3 h6 hxi hyj hxy]
     ·show i<s.next+e.m;by_cases hi:i<s.next
      ·omega
      ·have hxi:(if i<s.next then r i else q (i-s.next))=some x:=hxi;rw [if_neg hi] at hxi;have:i-s.next<e.m:=hx.rel.known _ x hxi;omega
     ·have XP:∀ k,Hit (r.up q s.next) ⟨Z9 post s.heap,s.next+e.m⟩ k->Hit r s k\/Hit q e.S' k:=fun k ⟨i,b,x,hb,hxi,hk⟩=>by
       rcases two i b hb with ⟨h2,h3⟩ | ⟨j,b0,rfl,h3,_,_⟩
       ·rw [low h2] at hxi;exact .inl ⟨i,b,x,h3,hxi,hk⟩
       ·rw [high] at hxi;exact .inr ⟨j,b0,x,h3,hxi,hk⟩
      have pI:∀ k,Hit q e.S' k->w.heap.size<=k:=fun k ⟨j,b,x,hb,hxj,hk⟩=>hk▸fe hb hxj;by_cases hi:i<s.next
      ·rw [low hi] at hxi
       exact (hr.safe i x g hxi hg).step hx.size (fun k hk _=>hfr k hk) fun k hk=>by
        rcases XP k hk with h1 | h1
        ·exact .inl h1
        ·exact .inr (pI k h1)
      ·have hxi:(if i<s.next then r i else q (i-s.next))=some x:=hxi;rw [if_neg hi] at hxi;obtain ⟨h1,h2⟩:=hx.rel.safe _ x g hxi hg;refine ⟨h1,fun k hk hl=>⟨(h2 k hk hl).1,fun hh => ?_⟩⟩;rcases XP k hh with h3 | h3
       ·have h4:=hr.lt h3;rcases hx.Wd k ⟨_,x,g,hxi,hg,hk,hl⟩ with ⟨i',x',g',h5,_⟩ | h5
        ·cases h5
        ·omega
       ·exact (h2 k hk hl).2 h3
     ·rcases two i b hb with ⟨_,h3⟩ | ⟨j,b0,rfl,_⟩
      ·exact h3
      ·omega
     ·cases hb:(⟨Z9 post s.heap,s.next+e.m⟩:St).get i with
      | none=>rfl
      | some b =>
       rcases two i b hb with ⟨_,h3⟩ | ⟨j,b0,rfl,_⟩
       ·rw [hg] at h3; cases h3
       ·omega
     ·rcases two i b hb with ⟨h2,h3⟩ | ⟨j,b0,rfl,h3,_,_⟩
      ·rw [low h2] at hxi;exact .inl ⟨i,b,x,h3,hxi,hk⟩
      ·rw [high] at hxi;exact .inr (hk▸fe h3 hxi)
     ·by_cases hi:i<s.next
      ·rw [low hi] at hq;exact absurd fU hq
      ·omega
     ·by_cases hi:i<s.next
      ·rw [low hi] at hxi;exact .inl ⟨i,x,g,hxi,hg,hf,hl⟩
      ·have hxi:(if i<s.next then r i else q (i-s.next))=some x:=hxi;rw [if_neg hi] at hxi;rcases hx.Wd k ⟨_,x,g,hxi,hg,hf,hl⟩ with ⟨i',x',g',h5,_⟩ | h5
       ·cases h5
       ·exact .inr h5
    ·exact aR.ren (fun i j x hg hxi=>by
      cases hg;show (if i+s.next<s.next then r (i+s.next) else q (i+s.next-s.next))=_;rw [if_neg (by omega),Nat.add_sub_cancel]
      exact hxi) hv1
   ·cases h
  ·exact vC (T:=T) (fun e he=>hT e (List.mem_cons_of_mem _ he)) args s v s' h r w us hr hv
end Ev
namespace Ev
open Go Go.Proofs
noncomputable section
def ME:FuncId->Bool:=fun f=>WL f [49,301,409,181]
def Ws (r:R) (k:Zb->St->Bool):Bool:=match r with
 | .ok v s=>k v s
 | .bad=>false
theorem Jf {r:R} {k:Zb->St->Bool} (h:Ws r k=true):∃ v s,r = .ok v s/\k v s=true:=by
 cases r with
 | bad=>cases h
 | ok v s=>exact ⟨v,s,rfl,h⟩
def Zkn:List Nat->List Nat->List (Nat×Nat)
 | j::J,i::L=>(j,i)::Zkn J L
 | _,_=>[]
def Zhf:List (Nat×Nat)->List (Nat×Nat)
 | []=>[]
 | (j,i)::l=>(i,j)::Zhf l
def EK (n:Nat):List Nat->List Nat:=@Nat.rec (fun _=>List Nat->List Nat) (fun l=>l) (fun k ih l=>ih (k::l)) n
def tgL:List (Nat×Nat)->Nat->Nat->Bool
 | [],_,_=>false
 | (x,y)::l,a,b=>sel (Nat.beq x a) (sel (Nat.beq y b) true (tgL l a b)) (tgL l a b)
structure Vd where
 z:Bool
 d:Int
 k:Int
 J:List Nat
 el:List (Nat×Nat)
 tg:List (Nat×Nat)
 te:List Nat
 LS:List (Nat×Zd)
 n:Nat
 tm:List Nat
def Vd.S (V:Vd):St:=⟨Z9 V.LS .lf,V.n⟩
def Zko (V:Vd) (L:List (Nat×Nat)):Vw:=⟨V.z,V.d,V.k,Z9 L .lf,Z9 V.el .lf,tgL V.tg,fun b=>WL b V.te,fun b=>WL b V.tm⟩
def Zdq (V:Vd) (s:St) (v:Zb) (L:List (Nat×Nat)):Bool :=
 sel (Cm (Zko V L) (Z9 (Zhf L) .lf) s.heap V.LS) (sel (Tl V.n L) (sel (Tl V.n V.el) (YT (Zko V L) v (.ptr 0 0)) false) false) false
def XK (V:Vd) (v:Zb) (s:St):Bool:=Zdq V s v (Zkn V.J (B7 [] v s))
end
theorem Yq:∀ {l:List (Nat×Nat)} {a b:Nat},tgL l a b=true->(a,b)∈l
 | [],_,_,h=>by cases h
 | (x,y)::l,a,b,h=>by
  have h:sel (Nat.beq x a) (sel (Nat.beq y b) true (tgL l a b)) (tgL l a b)=true:=h;cases h1:Nat.beq x a
  ·rw [h1] at h; exact List.mem_cons_of_mem _ (Yq h)
  ·rw [h1] at h;have h:sel (Nat.beq y b) true (tgL l a b)=true:=h;cases h2:Nat.beq y b
   ·rw [h2] at h; exact List.mem_cons_of_mem _ (Yq h)
   ·rw [Nat.eq_of_beq_eq_true h1,Nat.eq_of_beq_eq_true h2]; exact List.mem_cons_self
def Kn (S:Sig) (s:St) (T:Nat->Prop) (w:World) (L:List Zb) (U:List Value):Prop :=
 ∃ r,@Rel S r s w/\@VRs S r L U/\∀ k,Hit r s k\/Jz r k->T k
theorem VD [Sig] {r:Rho} {a:Zb} {l:List Zb} {u:Value} {m:List Value}:VRs r (a::l) (u::m)↔VR r a u/\VRs r l m :=
 ⟨fun h=>by cases h with | cons h t=>exact ⟨h,t⟩,fun h => .cons h.1 h.2⟩
section
variable {S:Sig} {s s':St} {T T':Nat->Prop} {w w':World} {L L':List Zb} {U U':List Value}
theorem Kn.start (w:World):Kn S ⟨.lf,0⟩ T w [] [] :=
 ⟨fun _=>none,@Rel.mk S _ _ _ (@RelB.mk S _ _ _ (fun i b x hb hx=>(by cases hx)) fun i _=>Tm i) (fun i j b c x y hb hc hx=>(by cases hx)) (fun i x hx=>(by cases hx)) (fun i x g hx=>(by cases hx)),@VRs.nil S _,fun k h=>by
  rcases h with ⟨i,b,x,_,hx,_⟩ | ⟨i,x,g,hx,_⟩ <;> cases hx⟩
theorem Kn.Zf (h:Kn S s T w L U) (hc:Chg (fun _=>False) w w'):Kn S s T w' L U:=by
 obtain ⟨r,h1,h2,h3⟩:=h;exact ⟨r,@Rel.Zf S _ _ _ h1 _ hc,h2,h3⟩
theorem Kn.mono (h:Kn S s T w L U) (hT:∀ k,T k->k<w.heap.size->T' k):Kn S s T' w L U:=by
 obtain ⟨r,h1,h2,h3⟩:=h;refine ⟨r,h1,h2,fun k hk=>hT k (h3 k hk) ?_⟩;rcases hk with hk | ⟨i,x,g,h4,h5,h6,h7⟩
 ·exact @Rel.lt S _ _ _ h1 _ hk
 ·have:=(@Rel.safe S _ _ _ h1 i x g h4 h5).1;omega
theorem Kn.pick (h:Kn S s T w L U) (hL:∀ r,@VRs S r L U->@VRs S r L' U'):Kn S s T w L' U':=by
 obtain ⟨r,h1,h2,h3⟩:=h;exact ⟨r,h1,hL r h2,h3⟩
theorem Kn.call {B:YI} {f:FuncId} {args:List Zb} {us:List Value} {v:Zb} (h:Kn S s T w L U) (hB:@Xc S prog B) (aA:∀ f id,B.reg f id=none) (hcall:L6 prog B ME 1000000 200 f args s = .ok v s')
  (he:∀ us W,(callFunc f us).run prog W = .ok (.enter f us) W) (hargs:∀ r,@VRs S r L U->@VRs S r args us) :
  Calls prog f ⟨us⟩ w fun e w'=>∃ u,e = .returned u/\Kn S s' (fun k=>T k\/w.heap.size<=k) w' (v::L) (u::U)/\Chg T w w':=by
 obtain ⟨r,h1,h2,h3⟩:=h;have hc:=@Wm S _ _ hB aA Qt ME 1000000 200 f args s v s' hcall r w us h1 (hargs r h2);rcases hc with ⟨u,w',h4,_⟩ | ⟨_,h4⟩
 ·rw [he] at h4;cases h4
 ·refine h4.mono ?_;rintro e w' ⟨u,rfl,q,hx,hu⟩;refine ⟨u,rfl,⟨q,@Ext.rel S _ _ _ _ _ _ hx,@VRs.cons S _ _ _ _ _ hu (@VRs.mono S _ _ (@Ext.le S _ _ _ _ _ _ hx) _ _ h2),fun k hk => ?_⟩,?_⟩
  ·rcases hk with hk | hk
   ·rcases @Ext.XP S _ _ _ _ _ _ hx k hk with h5 | h5
    ·exact .inl (h3 k (.inl h5))
    ·exact .inr h5
   ·rcases @Ext.Wd S _ _ _ _ _ _ hx k hk with h5 | h5
    ·exact .inl (h3 k (.inr h5))
    ·exact .inr h5
  ·exact ⟨@Ext.os S _ _ _ _ _ _ hx,@Ext.tape S _ _ _ _ _ _ hx,@Ext.output S _ _ _ _ _ _ hx,@Ext.size S _ _ _ _ _ _ hx,fun k hk hn=>@Ext.frame S _ _ _ _ _ _ hx k hk fun hh=>hn (h3 k (.inl hh))⟩
theorem Kn.gho {t:Nat} {u:Value} {F:Nat->Prop} (h:Kn S s T w L U) (h1:u.oneCell'=true) (h2:∀ b,u ≠ .bool b) (hF:∀ k,F k->¬ T k) (hm:S.Q6 t F w u):Kn S s.Vy (fun k=>T k\/F k) w (.gho s.next t::L) (u::U):=by
 obtain ⟨r,k1,k2,k3⟩:=h;obtain ⟨q,q1,q2,q3,q4,q5⟩:=@Hl S _ _ _ k1 u F t h1 h2 (fun k hk hh=>hF k hk (k3 k (.inl hh))) hm;refine ⟨q,q1,@VRs.cons S _ _ _ _ _ q3 (@VRs.mono S _ _ q2 _ _ k2),fun k hk => ?_⟩;rcases hk with hk | hk
 ·exact .inl (k3 k (.inl (q4 k hk)))
 ·rcases q5 k hk with h5 | h5
  ·exact .inl (k3 k (.inr h5))
  ·exact .inr h5
theorem Kn.blk {k e:Nat} {cs:List Zb} {vs:List Value} {t:TypeId} (h:Kn S s T w L U) (hcs:∀ r,@VRs S r L U->@VRs S r cs vs) (ho:w.heap[k]? = some (.cells ⟨vs⟩ t (0,0))) (hn:¬ T k) (n:Nat) (he:n*e=vs.length) :
  Kn S (s.new (.cells cs e false)) (fun j=>T j\/j=k) w (.slice s.next 0 n none::L) (.slice (some ⟨k,0,none⟩) n n::U):=by
 obtain ⟨r,k1,k2,k3⟩:=h;obtain ⟨q,q1,q2,q3,q4,q5⟩:=@Hm S _ _ _ k1 k e cs vs t ho (hcs r k2) (fun hh=>hn (k3 k (.inl hh))) (fun hh=>hn (k3 k (.inr hh)));refine ⟨q,q1,@VRs.cons S _ _ _ _ _ (@VR.slice S q s.next 0 n none _ n q3 (Nat.le_refl _) (fun _ h=>by cases h) (fun _=>by show 0+n*e=vs.length; omega)) (@VRs.mono S _ _ q2 _ _ k2),fun j hj => ?_⟩;rcases hj with hj | hj
 ·rcases q4 j hj with h5 | h5
  ·exact .inl (k3 j (.inl h5))
  ·exact .inr h5
 ·exact .inl (k3 j (.inr (q5 j hj)))
theorem Kn.view {S':Sig} {V:Vd} {v:Zb} {u:Value} (h:Kn S s T w L U) (hv:∀ r,@VRs S r L U->@VR S r v u) (dW:XK V v s=true) (hz:V.z=true->S'.x=0) (hd:V.z=false->S'.x=S.x+V.d) (hk:S'.y=V.k)
  (jP:∀ a b,(a,b)∈V.tg->∀ F w v,S.Q6 a F w v->S'.Q6 b F w v) (hte:∀ b∈V.te,∀ w,S'.Q6 b (fun _=>False) w (.slice none 0 0)) (hto:∀ a b,(a,b)∈V.tg->∀ F w o,S.Xg a F w o->S'.Xg b F w o) (lu:∀ b∈V.tm,∀ w c,S'.Xg b (fun _=>False) w (.map #[] c)):Kn S' V.S T w [.ptr 0 0] [u]:=by
 obtain ⟨r,k1,k2,k3⟩:=h;obtain ⟨c1,dW⟩:=ZE (show sel _ (sel _ (sel _ _ false) false) false=true from dW);obtain ⟨c2,dW⟩:=ZE dW;obtain ⟨c3,c4⟩:=ZE dW;obtain ⟨o1,o2,o3,o4⟩:=Co (S:=S) (S':=S') k1 rfl rfl c1 c2 c3 hz hd hk (fun a b h=>jP a b (Yq h)) (fun b h=>hte b (Wr.1 h) w) (fun a b h=>hto a b (Yq h)) (fun b h=>lu b (Wr.1 h) w);exact ⟨_,o2,@VRs.cons S' _ _ _ _ _ (Si o1 _ _ _ c4 (hv r k2)) (@VRs.nil S' _),fun k hk=>k3 k (hk.imp (o3 k) (o4 k))⟩
theorem Kn.set {i t:Nat} {u:Value} {M:Nat->Mn} (h:Kn S s T w L U) (hM:S.Q6=QL M) (hv:∀ r,@VRs S r L U->@VR S r (.gho i t) u) {A:Zs} (hA:M t = .set A):Sm A/\Zo T w u (Zl A):=by
 obtain ⟨r,k1,k2,k3⟩:=h;obtain ⟨h1,h2⟩:=@XJ S _ _ _ _ hM k1 i t u (hv r k2) A hA;exact ⟨h1,h2.mono fun b hb _=>k3 b (.inr hb)⟩
end
noncomputable abbrev Zdr (M:Nat->Mn) (h:M 0 = .nz) (x y:Int) (hx:0<=x/\x<=1000) (hy:0<=y/\y<=1000):Sig:=⟨x,y,hx,hy,fun _=>0,QL M,Kw M,ZfA h⟩
end Ev
end Go.Proofs.YtheflbaejhlboaaGreatDoor
