/- Lemmas for a law of confluencetop. -/
import GoSem.Core.Float
import GoSem.Op.FloatCmp
import GoSem.Op.Equal
import Derived.WalkKit
import Derived.Lib.Hide
import Derived.Lib.AppendStr
import Derived.Laws.CopyOwn
import Derived.Deep.Draws
import Derived.KernelRfl
import Derived.Test.YtheflbaejhlboaaGreatDoorProg
import Derived.Laws.Externs
import Derived.Laws.Cover2
import Derived.Laws.Cover3
import Derived.Laws.FloatArith
import Derived.Deep.RegionHeld3
import Derived.Lib.SliceRun
set_option linter.all false
set_option maxHeartbeats 2000000
namespace Go.Proofs.YtheflbaejhlboaaGreatDoor
open Tryz
section
open Go
def fl (n:Nat):Nat:=FloatKind.f64.nearest (n:Int)
def Za0 (n:Nat):Ieee.Datum:=if n=0 then .number false 0 (-1074) else .number false (n*2^(52-n.log2)) ((n.log2:Int)-52)
theorem KV {n:Nat} (h:n<=4503599627370496):n.log2<=52:=by
 rcases Nat.eq_zero_or_pos n with rfl | h0
 ·decide
 ·have h1:=Nat.log2_self_le (n:=n) (by omega);rcases Nat.lt_or_ge 52 n.log2 with h2 | h2
  ·exact absurd (Nat.le_trans (Nat.pow_le_pow_right (by decide:0<2) h2) h1) (by
    rw [show (2:Nat)^53=9007199254740992 from rfl]; omega)
  ·exact h2
theorem Zcq (n:Nat):Ieee.Toward.even.cut false n 0=n:=by
 simp [Ieee.Toward.cut,Nat.mod_one]
theorem Za1 {L:Nat} (h:L<=52):2^L*2^(52-L)=4503599627370496:=by
 rw [<- Nat.pow_add,show L+(52-L)=52 by omega]
theorem scaled {n:Nat} (h0:0<n) (h:n<=4503599627370496):4503599627370496<=n*2^(52-n.log2)/\n*2^(52-n.log2)<9007199254740992:=by
 have hL:=KV h;have h1:=Nat.log2_self_le (n:=n) (by omega);have h2:=Nat.lt_log2_self (n:=n);have h3:=Za1 hL;constructor
 ·rw [<- h3]; exact Nat.mul_le_mul_right _ h1
 ·have h4:n*2^(52-n.log2)<2^(n.log2+1)*2^(52-n.log2):=Nat.mul_lt_mul_of_pos_right h2 (Nat.pow_pos (by decide));rw [Nat.pow_succ,Nat.mul_right_comm,h3] at h4;exact h4
theorem X2:fl 0=0:=by decide +kernel
theorem Zh8 {n:Nat} (h0:0<n) (h:n<=4503599627370496):fl n=(n.log2+1022)*4503599627370496+n*2^(52-n.log2):=by
 have hL:=KV h;have hs:=scaled h0 h;unfold fl FloatKind.nearest FloatKind.encode Ieee.Format.write;simp only [Int.natAbs_natCast];unfold Ieee.Format.nearest;rw [if_neg (by omega)];have e1:decide ((n:Int)<0)=false:=by simp
 rw [e1];simp only [FloatKind.format,Ieee.double,Ieee.Format.leastPlace,Ieee.Format.word,Ieee.Format.infRung,Ieee.Format.binade]
 have e2:max ((0:Int)+(n.log2:Int)-((52:Nat):Int)) (2-2^(11-1)-((52:Nat):Int))=(n.log2:Int)-52:=by
  rw [show (2-2^(11-1)-((52:Nat):Int)) = -1074 from rfl,Int.max_eq_left] <;> omega
 have e3:((n.log2:Int)-52-(2-2^(11-1)-((52:Nat):Int))).toNat=n.log2+1022:=by
  rw [show (2-2^(11-1)-((52:Nat):Int)) = -1074 from rfl]; omega
 rw [e2,e3,show (0-((n.log2:Int)-52)).toNat=52-n.log2 by omega,show (((n.log2:Int)-52)-0).toNat=0 by omega,Zcq,Nat.shiftLeft_eq];simp only [Bool.false_eq_true,if_false];rw [show (2:Nat)^52=4503599627370496 from rfl,show ((2:Nat)^11-1)*4503599627370496=9218868437227405312 from rfl];refine Nat.min_eq_left ?_
 generalize n*2^(52-n.log2)=z at hs ⊢
 generalize n.log2=L at hL ⊢
 omega
theorem ZfC (w:Nat):FloatKind.f64.decode w=if w%9223372036854775808<4503599627370496 then .number (w / 9223372036854775808%2==1) (w%9223372036854775808) (-1074)
  else if w%9223372036854775808<9218868437227405312 then .number (w / 9223372036854775808%2==1) (4503599627370496+w%9223372036854775808%4503599627370496) (-1074+(w%9223372036854775808 / 4503599627370496-1:Nat))
  else if w%9223372036854775808=9218868437227405312 then .infinity (w / 9223372036854775808%2==1) else .nan (w / 9223372036854775808%2==1) (w%9223372036854775808-9218868437227405312):=rfl
theorem MA {n:Nat} (h:n<=4503599627370496):FloatKind.f64.decode (fl n)=Za0 n:=by
 rcases Nat.eq_zero_or_pos n with rfl | h0
 ·rw [X2]; decide +kernel
 ·have hL:=KV h;have hs:=scaled h0 h;rw [Zh8 h0 h];unfold Za0;rw [if_neg (by omega)];rw [ZfC];obtain ⟨y,hy⟩:∃ y,n*2^(52-n.log2)=4503599627370496+y:=⟨n*2^(52-n.log2)-4503599627370496,by omega⟩
  rw [hy] at hs ⊢;obtain ⟨L,I5⟩:∃ L,n.log2=L:=⟨_,rfl⟩
  rw [I5] at hL ⊢;have h1:(L+1022)*4503599627370496+(4503599627370496+y)=(L+1023)*4503599627370496+y:=by omega
  rw [h1];have h2:(L+1023)*4503599627370496<=1075*4503599627370496:=Nat.mul_le_mul_right _ (by omega);have h3:((L+1023)*4503599627370496+y)%9223372036854775808=(L+1023)*4503599627370496+y:=Nat.mod_eq_of_lt (by omega);have h4:((L+1023)*4503599627370496+y) / 9223372036854775808=0:=Nat.div_eq_of_lt (by omega);rw [h3,h4];have h5:((L+1023)*4503599627370496+y) / 4503599627370496=L+1023:=by omega
  have h6:((L+1023)*4503599627370496+y)%4503599627370496=y:=by omega
  rw [if_neg (by omega),if_pos (by omega),h5,h6];rw [show -1074+((L+1023-1:Nat):Int)=(L:Int)-52 by omega];rfl
theorem MB {n:Nat} (h:n<=4503599627370496):(Za0 n).integral .zero = .number false n 0:=by
 unfold Za0;rcases Nat.eq_zero_or_pos n with rfl | h0
 ·simp [Ieee.Datum.integral,Ieee.Toward.cut]
 ·have hL:=KV h;have hs:=scaled h0 h;rw [if_neg (by omega)];unfold Ieee.Datum.integral;simp only;rw [show ((n.log2:Int)-52).toNat=0 by omega,show (-((n.log2:Int)-52)).toNat=52-n.log2 by omega,Nat.shiftLeft_zero];unfold Ieee.Toward.cut;simp only [Bool.toNat_false,Nat.add_zero]
  congr 1
  rw [Nat.min_eq_left,Nat.shiftLeft_eq,Nat.one_mul,Nat.mul_div_cancel _ (Nat.pow_pos (by decide))];have h1:=Nat.le_log2 (n:=n*2^(52-n.log2)) (k:=52) (by omega);have:52<=(n*2^(52-n.log2)).log2:=h1.2 (by rw [show (2:Nat)^52=4503599627370496 from rfl]; omega);omega
theorem Zcr {n:Nat} (h:n<=4503599627370496):FloatKind.f64.encode ((FloatKind.f64.decode (fl n)).integral .zero)=fl n:=by
 rw [MA h,MB h];unfold fl FloatKind.nearest
 congr 2
theorem Zcs {n:Nat} (h:n<=4503599627370496):(FloatKind.f64.decode (fl n)).toInt .zero=some (n:Int):=by
 rw [MA h];unfold Ieee.Datum.toInt;rw [MB h];simp [Ieee.signed]
theorem TN {a b:Nat} (ha:a<=4503599627370496) (hb:b<=4503599627370496):FloatKind.f64.format.order (fl a) (fl b)=some (compare (a:Int) (b:Int)):=by
 unfold Ieee.Format.order;have da:=MA ha;have db:=MA hb;unfold FloatKind.decode at da db;rw [da,db]
 have key:∀ (x y:Int) (c:Nat),0<c->compare (x*c) (y*c)=compare x y:=fun x y c hc=>by
  simp only [Int.compare_eq_ite_lt];have hc':(0:Int)<c:=by omega
  have e1:(x*c<y*c)↔x<y:=Int.mul_lt_mul_right hc';have e2:(y*c<x*c)↔y<x:=Int.mul_lt_mul_right hc';simp [e1,e2]
 unfold Za0;rcases Nat.eq_zero_or_pos a with rfl | h0 <;> rcases Nat.eq_zero_or_pos b with rfl | h1
 ·simp [Ieee.Datum.order,Ieee.signed]
 ·rw [if_pos rfl,if_neg (by omega)];have hL:=KV hb;simp only [Ieee.Datum.order,Ieee.signed,Bool.false_eq_true,if_false];have hs:=scaled h1 hb;rw [Int.min_eq_left (by omega)]
  congr 1
  rw [Nat.zero_shiftLeft,Nat.shiftLeft_eq];have:0<b*2^(52-b.log2)*2^((b.log2:Int)-52 - -1074).toNat:=Nat.mul_pos (by omega) (Nat.pow_pos (by decide));simp only [Int.compare_eq_ite_lt];rw [if_pos (by omega),if_pos (by omega)]
 ·rw [if_neg (by omega),if_pos rfl];have hL:=KV ha;simp only [Ieee.Datum.order,Ieee.signed,Bool.false_eq_true,if_false];have hs:=scaled h0 ha;rw [Int.min_eq_right (by omega)]
  congr 1
  rw [Nat.zero_shiftLeft,Nat.shiftLeft_eq];have:0<a*2^(52-a.log2)*2^((a.log2:Int)-52 - -1074).toNat:=Nat.mul_pos (by omega) (Nat.pow_pos (by decide));simp only [Int.compare_eq_ite_lt];rw [if_neg (by omega),if_pos (by omega),if_neg (by omega),if_pos (by omega)]
 ·rw [if_neg (by omega),if_neg (by omega)];have hLa:=KV ha;have hLb:=KV hb;simp only [Ieee.Datum.order,Ieee.signed,Bool.false_eq_true,if_false]
  congr 1
  rw [Nat.shiftLeft_eq,Nat.shiftLeft_eq];obtain ⟨L,hL⟩:∃ L,min a.log2 b.log2=L:=⟨_,rfl⟩
  have hm:min ((a.log2:Int)-52) ((b.log2:Int)-52)=(L:Int)-52:=by omega
  rw [hm,show ((a.log2:Int)-52-((L:Int)-52)).toNat=a.log2-L by omega,show ((b.log2:Int)-52-((L:Int)-52)).toNat=b.log2-L by omega]
  rw [Nat.mul_assoc,Nat.mul_assoc,<- Nat.pow_add,<- Nat.pow_add,show 52-a.log2+(a.log2-L)=52-L by omega,show 52-b.log2+(b.log2-L)=52-L by omega,
   Int.natCast_mul,Int.natCast_mul]
  exact key _ _ _ (Nat.pow_pos (by decide))
end
section
open Go.RowKit
structure Chg (T:Nat->Prop) (w w':World):Prop where
 os:w'.os=w.os
 tape:w'.tape=w.tape
 output:w'.output=w.output
 size:w.heap.size<=w'.heap.size
 block:∀ k,k<w.heap.size->¬ T k->w'.heap[k]? = w.heap[k]?
namespace Chg
variable {T T':Nat->Prop} {a b c w w':World}
theorem refl (T:Nat->Prop) (w:World):Chg T w w:=⟨rfl,rfl,rfl,Nat.le_refl _,fun _ _ _=>rfl⟩
theorem trans (h:Chg T a b) (k:Chg T' b c) (hs:∀ i,i<a.heap.size->T' i->T i):Chg T a c :=
 ⟨k.os.trans h.os,k.tape.trans h.tape,k.output.trans h.output,Nat.le_trans h.size k.size,
  fun i hi hn=>(k.block i (Nat.lt_of_lt_of_le hi h.size) (fun ht=>hn (hs i hi ht))).trans (h.block i hi hn)⟩
theorem mono (h:Chg T a b) (hs:∀ i,i<a.heap.size->T i->T' i):Chg T' a b :=
 ⟨h.os,h.tape,h.output,h.size,fun i hi hn=>h.block i hi fun ht=>hn (hs i hi ht)⟩
theorem drew (h:Chg T a w):Chg T a w.drew:=⟨h.os,h.tape,h.output,h.size,h.block⟩
theorem drewN (h:Chg T a w) (n:Nat):Chg T a (w.drewN n):=⟨h.os,h.tape,h.output,h.size,h.block⟩
theorem alloc (h:Chg T a w) (o:Obj):Chg T a (w.alloc o) :=
 h.trans (T':=T) ⟨rfl,rfl,rfl,by simp,fun k hk _=>by
  show (w.heap.push o)[k]? = _
  rw [Array.getElem?_push,if_neg (Nat.ne_of_lt hk)]⟩ fun _ _ ht=>ht
theorem setCell (h:Chg T a w) {p:Addr} (hp:T p.block\/a.heap.size<=p.block) (u:Value):Chg T a (w.setCell p u) :=
 h.trans (T':=fun k=>k=p.block) ⟨rfl,rfl,rfl,by simp,fun k _ hn=>heap_setCell_other w p k u hn⟩ fun i hi ht=>by
  rcases hp with hp | hp
  ·rw [ht]; exact hp
  ·omega
theorem setRow (h:Chg T a w) {g:Nat} (hp:T g\/a.heap.size<=g) (cs:Array Value):Chg T a (w.setRow g cs) :=
 h.trans (T':=fun k=>k=g) ⟨rfl,rfl,rfl,by simp,fun k _ hn=>setRow_other w g k cs hn⟩ fun i hi ht=>by
  rcases hp with hp | hp
  ·rw [ht]; exact hp
  ·omega
theorem grown {row:Option Nat} (h:Chg T a w) (hg:w.grownBy w' row) (hr:∀ k,row=some k->T k\/a.heap.size<=k):Chg T a w' :=
 h.trans (T':=fun k=>row=some k) ⟨hg.os,hg.tape,hg.output,hg.size,fun k hk hn=>hg.block k hk (fun e=>hn e.symm)⟩ fun i hi ht=>by
  rcases hr i ht with h1 | h1
  ·exact h1
  ·omega
theorem below (h:Chg T w w') {B:Nat} (hB:B<=w.heap.size) (ht:∀ k,k<B->¬ T k):Below B w w' :=
 ⟨h.os,h.tape,h.output,h.size,fun k hk=>h.block k (Nat.lt_of_lt_of_le hk hB) (ht k hk)⟩
theorem Zct {B:Nat} (h:Below B w w'):Chg (fun k=>B<=k) w w' :=
 ⟨h.os,h.tape,h.output,h.size,fun k _ hn=>h.block k (by omega)⟩
theorem cell (h:Chg T w w') {p:Addr} {u:Value} (hc:w.cell? p=some u) (hn:¬ T p.block):w'.cell? p=some u :=
 (World.cell?_of_block (w:=w) (h.block p.block (World.block_lt_of_cell? w p hc) hn)).trans hc
theorem heap (h:Chg T w w') {k:Nat} {o:Obj} (hk:w.heap[k]? = some o) (hn:¬ T k):w'.heap[k]? = some o :=
 (h.block k (lt_of_block hk) hn).trans hk
theorem one (w:World) (p:Addr) (u:Value):Chg (fun k=>k=p.block) w (w.setCell p u):=setCell (T:=fun k=>k=p.block) (refl _ w) (Or.inl (Eq.refl p.block)) u
theorem Z5 (h:Chg T a w) {D:Nat} (hD:T D) (j:Nat) (u:Value):Chg T a (w.setCell ⟨D,j,none⟩ u):=h.setCell (p:=⟨D,j,none⟩) (Or.inl hD) u
theorem ZlX (h:Chg T a w) {D:Nat} (hD:a.heap.size<=D) (j:Nat) (u:Value):Chg T a (w.setCell ⟨D,j,none⟩ u):=h.setCell (p:=⟨D,j,none⟩) (Or.inr hD) u
end Chg
theorem Jd (b o j:Nat):(⟨b,o,none⟩:Addr).add j=⟨b,o+j,none⟩:=by unfold Addr.add; split <;> simp_all
def Cs (w:World) (S:Nat->Prop) (A:Option Addr) (n:Nat) (xs:List Value):Prop :=
 xs.length=n/\(0<n->∃ b off,A=some ⟨b,off,none⟩/\S b/\∀ j u,xs[j]? = some u->w.cell? ⟨b,off+j,none⟩=some u)
namespace Cs
variable {w w':World} {S S' T:Nat->Prop} {A:Option Addr} {n:Nat} {xs:List Value}
theorem chg (h:Cs w S A n xs) (hc:Chg T w w') (hd:∀ k,k<w.heap.size->S k->¬ T k):Cs w' S A n xs :=
 ⟨h.1,fun hn=>by
  obtain ⟨b,off,e,hs,hcell⟩:=h.2 hn;refine ⟨b,off,e,hs,fun j u hu=>hc.cell (hcell j u hu) ?_⟩
  exact hd b (World.block_lt_of_cell? w _ (hcell j u hu)) hs⟩
theorem mono (h:Cs w S A n xs) (hs:∀ k,k<w.heap.size->S k->S' k):Cs w S' A n xs :=
 ⟨h.1,fun hn=>by
  obtain ⟨b,off,e,h1,hcell⟩:=h.2 hn;have hl:0<xs.length:=by have:=h.1; omega
  exact ⟨b,off,e,hs b (World.block_lt_of_cell? w _ (hcell 0 _ (List.getElem?_eq_getElem hl))) h1,hcell⟩⟩
theorem drew (h:Cs w S A n xs):Cs w.drew S A n xs:=h
theorem drewN (h:Cs w S A n xs) (k:Nat):Cs (w.drewN k) S A n xs:=h
theorem take (h:Cs w S A n xs) {k:Nat} (hk:k<=n):Cs w S A k (xs.take k) :=
 ⟨by rw [List.length_take,h.1]; omega,fun hn=>by
  obtain ⟨b,off,e,hs,hcell⟩:=h.2 (by omega);refine ⟨b,off,e,hs,fun j u hu=>hcell j u ?_⟩;rw [List.getElem?_take] at hu;split at hu
  ·exact hu
  ·cases hu⟩
theorem drop (h:Cs w S A n xs) {k cap:Nat} (hk:k<=n) (hc:n<=cap):Cs w S (if cap=k then A else A.map (·.add k)) (n-k) (xs.drop k):=by
 refine ⟨by rw [List.length_drop,h.1],fun hn => ?_⟩;obtain ⟨b,off,rfl,hs,hcell⟩:=h.2 (by omega);rw [if_neg (by omega)];refine ⟨b,off+k,by simp [Jd],hs,fun j u hu => ?_⟩;rw [Nat.add_assoc];exact hcell _ u (by rw [<- hu,List.getElem?_drop])
theorem cellAt (h:Cs w S A n xs) {b off:Nat} (e:A=some ⟨b,off,none⟩) {j:Nat} {u:Value} (hu:xs[j]? = some u):w.cell? ⟨b,off+j,none⟩=some u:=by
 have hl:j<xs.length:=(List.getElem?_eq_some_iff.1 hu).1;obtain ⟨b',off',e',_,hcell⟩:=h.2 (by have:=h.1; omega);rw [e] at e';injection e' with e'
 injection e' with e1 e2
 subst e1; subst e2
 exact hcell j u hu
theorem Pb {P:Program} (h:Cs w S A n xs) (c:Nat):(Builtin.firstCells 1 n (.slice A n c)).run P w = .ok xs.toArray w:=by
 by_cases hn:0<n
 ·obtain ⟨b,off,rfl,_,hcell⟩:=h.2 hn;exact run_firstCells_some (P:=P) w 1 n _ n c xs (by rw [h.1,Nat.mul_one]) fun j u hu=>by rw [Jd]; exact hcell j u hu
 ·have h0:n=0:=by omega
  subst h0;have hx:xs=[]:=List.eq_nil_of_length_eq_zero h.1;subst hx;cases A <;> simp [Builtin.firstCells,loadCells,loadCellsFrom]
end Cs
def Own (w:World) (e:TypeId) (own:Option Nat) (A:Option Addr) (n cap:Nat) (xs:List Value):Prop :=
 xs.length=n/\n<=cap/\((own=none/\cap=0)\/∃ g cur,own=some g/\A=some ⟨g,0,none⟩/\w.heap[g]? = some (.cells cur e (0,0))/\cap<=cur.size/\cap<=maxLen/\cur.toList.take n=xs)
namespace Own
variable {w w':World} {T:Nat->Prop} {e:TypeId} {own:Option Nat} {A:Option Addr} {n cap:Nat} {xs:List Value}
theorem Xz (w:World) (e:TypeId) (A:Option Addr):Own w e none A 0 0 []:=⟨rfl,Nat.le_refl _,.inl ⟨rfl,rfl⟩⟩
theorem len (h:Own w e own A n cap xs):xs.length=n:=h.1
theorem fits (h:Own w e own A n cap xs):n<=cap:=h.2.1
theorem Wg (h:Own w e own A n cap xs):cap<=9223372036854775807:=by
 rcases h.2.2 with ⟨_,h0⟩ | ⟨_,_,_,_,_,_,hm,_⟩
 ·omega
 ·simpa [maxLen] using hm
theorem lt (h:Own w e own A n cap xs) {g:Nat} (hg:own=some g):g<w.heap.size:=by
 rcases h.2.2 with ⟨h0,_⟩ | ⟨g',cur,h0,_,hh,_⟩
 ·rw [h0] at hg; cases hg
 ·rw [h0] at hg; injection hg with hg; subst hg; exact lt_of_block hh
theorem ne_ (h:Own w e own A n cap xs) {k:Nat} {t:TypeId} {cs:Array Value} {fr:Nat×Nat} (hk:w.heap[k]? = some (.cells cs t fr)) (ht:t≠e):own≠some k:=by
 intro hg;rcases h.2.2 with ⟨h0,_⟩ | ⟨g',cur,h0,_,hh,_⟩
 ·rw [h0] at hg; cases hg
 ·rw [h0] at hg; injection hg with hg; subst hg
  rw [hk] at hh;injection hh with hh
  injection hh with _ hh _
  exact ht hh
theorem chg (h:Own w e own A n cap xs) (hc:Chg T w w') (hd:∀ k,own=some k->¬ T k):Own w' e own A n cap xs:=by
 refine ⟨h.1,h.2.1,?_⟩;rcases h.2.2 with h0 | ⟨g,cur,h0,hA,hh,r⟩
 ·exact .inl h0
 ·exact .inr ⟨g,cur,h0,hA,hc.heap hh (hd g h0),r⟩
theorem drew (h:Own w e own A n cap xs):Own w.drew e own A n cap xs:=h
theorem drewN (h:Own w e own A n cap xs) (k:Nat):Own (w.drewN k) e own A n cap xs:=h
theorem cs (h:Own w e own A n cap xs):Cs w (fun k=>own=some k) A n xs:=by
 refine ⟨h.1,fun hn => ?_⟩;rcases h.2.2 with ⟨_,h0⟩ | ⟨g,cur,h0,hA,hh,hcs,_,ht⟩
 ·have:=h.2.1; omega
 ·refine ⟨g,0,hA,h0,fun j u hu => ?_⟩;rw [Nat.zero_add,cell_of_row w g j cur e (0,0) hh];rw [<- ht,List.getElem?_take] at hu;split at hu
  ·simpa using hu
  ·cases hu
theorem cells (h:Own w e own A n cap xs) {j:Nat} {u:Value} (hu:xs[j]? = some u):∃ g,own=some g/\A=some ⟨g,0,none⟩/\w.cell? ⟨g,j,none⟩=some u/\w.frozen? ⟨g,j,none⟩=false:=by
 have hl:j<xs.length:=(List.getElem?_eq_some_iff.1 hu).1;rcases h.2.2 with ⟨_,h0⟩ | ⟨g,cur,h0,hA,hh,hcs,_,ht⟩
 ·have:=h.2.1; have:=h.1; omega
 ·refine ⟨g,h0,hA,?_,frozen_of_row w g j cur e hh⟩;rw [cell_of_row w g j cur e (0,0) hh];rw [<- ht,List.getElem?_take] at hu;split at hu
  ·simpa using hu
  ·cases hu
theorem take (h:Own w e own A n cap xs) {k:Nat} (hk:k<=n):Own w e own A k cap (xs.take k):=by
 refine ⟨by rw [List.length_take,h.1]; omega,by have:=h.2.1; omega,?_⟩;rcases h.2.2 with h0 | ⟨g,cur,h0,hA,hh,hcs,hm,ht⟩
 ·exact .inl h0
 ·refine .inr ⟨g,cur,h0,hA,hh,hcs,hm,?_⟩;rw [<- ht,List.take_take]
  congr 1
  omega
theorem set (h:Own w e own A n cap xs) {g:Nat} (hg:own=some g) (j:Nat) (u:Value):Own (w.setCell ⟨g,j,none⟩ u) e own A n cap (xs.set j u):=by
 refine ⟨by rw [List.length_set]; exact h.1,h.2.1,?_⟩;rcases h.2.2 with ⟨h0,_⟩ | ⟨g',cur,h0,hA,hh,hcs,hm,ht⟩
 ·rw [h0] at hg; cases hg
 ·rw [h0] at hg; injection hg with hg; subst hg
  refine .inr ⟨g',cur.setIfInBounds j u,h0,hA,heap_setCell_same w g' j cur e u hh,by simpa using hcs,hm,?_⟩;rw [Array.toList_setIfInBounds,<- ht,List.take_set]
end Own
def Src (P:Program) (w:World) (x:Value) (news:List Value):Prop :=
 (Builtin.lenOf x).run P w = .ok news.length w/\(Builtin.firstCells 1 news.length x).run P w = .ok news.toArray w/\(Builtin.firstCells 1 news.length x).run P w.drew = .ok news.toArray w.drew
theorem Src.slice {P:Program} {w:World} {S:Nat->Prop} {A:Option Addr} {n c:Nat} {xs:List Value} (h:Cs w S A n xs):Src P w (.slice A n c) xs:=by
 have h1:=h.Pb (P:=P) c;have h2:=h.drew.Pb (P:=P) c;have e:=h.1;subst e;exact ⟨by simp [Builtin.lenOf],h1,h2⟩
theorem Src.string {P:Program} {w:World} (s:ByteArray):Src P w (.string s) (Lib.strCells s):=by
 have e:=Lib.strCells_length s;exact ⟨by simp [Builtin.lenOf,e],by rw [e]; exact Lib.run_firstCells_string w 1 s,by rw [e]; exact Lib.run_firstCells_string w.drew 1 s⟩
theorem B4 {P:Program} {w:World} {t u ty e:TypeId} {i:TypeInfo} {z:Value} {aU:Nat}
  (ht:P.underlying t=some (.slice e)) (hu:(∃ d,P.underlying u=some (.slice d))\/P.underlying u=some .string)
  (hi:P.info? e=some i) (hz:i.zero=some z) (hsize:i.size=1) (hby:i.bytes=aU) (hzs:z.cells.size=1)
  {own:Option Nat} {A:Option Addr} {n cap:Nat} {xs news:List Value} {x:Value} (h:Own w e own A n cap xs) (hx:Src P w x news)
  (h1:∀ u∈news,u.oneCell'=true) (h63:n+news.length<=9223372036854775807) (hbytes:(n+news.length)*aU<=140737488355328) :
  ∃ own' A' cap' w',(Builtin.append_ #[t,u] ty #[.slice A n cap,x]).run P w = .ok (.slice A' (n+news.length) cap') w'/\Own w' e own' A' (n+news.length) cap' (xs++news) /\
   (own'=own\/own'=some w.heap.size)/\Chg (fun k=>own=some k) w w':=by
 subst hby
 have hxl:=h.1;have hsl:(xs++news).length=n+news.length:=by rw [List.length_append,hxl]
 by_cases hroom:n+news.length<=cap
 ·rcases h.2.2 with ⟨h0,hc⟩ | ⟨g,cur,h0,hA,hh,hcs,hm,htk⟩
  ·have hn0:news=[]:=List.eq_nil_of_length_eq_zero (by omega);subst hn0;refine ⟨own,A,cap,w,?_,by simpa using h,.inl rfl,Chg.refl _ w⟩;obtain ⟨l1,l2,_⟩:=hx;simp only [List.length_nil,Nat.add_zero] at l1 l2 hroom ⊢;rcases hu with ⟨d,hu⟩ | hu <;> cases A <;> simp [Builtin.append_,run_underlying ht,run_underlying hu,sizeOf,typeInfo,hi,hsize,l1,l2,hroom,storeCells]
  ·subst hA;have hst:=run_storeCells_at P g n e news 0 cur w hh (by simp; omega) h1;simp only [Nat.add_zero] at hst;refine ⟨own,some ⟨g,0,none⟩,cap,w.setRow g (cur.toList.take n++news++cur.toList.drop (n+news.length)).toArray,?_,?_,.inl rfl,(Chg.refl _ w).setRow (.inl h0) _⟩
   ·obtain ⟨l1,l2,_⟩:=hx;rcases hu with ⟨d,hu⟩ | hu <;> simp [Builtin.append_,run_underlying ht,run_underlying hu,sizeOf,typeInfo,hi,hsize,l1,l2,hroom,Addr.add_lit,hst]
   ·refine ⟨hsl,hroom,.inr ⟨g,_,h0,rfl,setRow_heap w g cur _ e _ hh,?_,hm,?_⟩⟩
    ·simp only [List.size_toArray,List.length_append,List.length_take,List.length_drop,Array.length_toList];omega
    ·show List.take (n+news.length) (cur.toList.take n++news++cur.toList.drop (n+news.length))=_;rw [htk,<- hsl];exact List.take_left
 ·have hge:=grownCap_ge w (n+news.length) cap e;have hcm:grownCap w (n+news.length) cap e<=maxLen:=grownCap_le_maxLen w (n+news.length) cap e (by simp only [maxLen]; omega);have hn:¬ (n+news.length<=cap):=hroom;have h63':¬ (9223372036854775807<((n:Int)+(news.length:Int))):=by omega
  have hfit:=growslice_fits (need:=n+news.length) (old:=cap) (bytes:=i.bytes) (by omega) hbytes;have h48':¬ (281474976710656<Builtin.nextslicecap (n+news.length) cap*i.bytes):=by omega
  have hold:(Builtin.firstCells 1 n (.slice A n cap)).run P w.drew = .ok xs.toArray w.drew:=h.cs.drew.Pb cap
  refine ⟨some w.heap.size,some ⟨w.heap.size,0,none⟩,grownCap w (n+news.length) cap e,
   w.drew.alloc (.cells (xs.toArray++news.toArray++Builtin.zeroCells z.cells (grownCap w (n+news.length) cap e-(n+news.length))) e),?_,?_,.inr rfl,((Chg.refl _ w).drew).alloc _⟩
  ·obtain ⟨l1,_,l3⟩:=hx;rcases hu with ⟨d,hu⟩ | hu
   all_goals
    simp [Builtin.append_,run_underlying ht,run_underlying hu,sizeOf,typeInfo,zeroValue,hi,hz,hsize,l1,l3,hn,h63',h48',Question.forced,hold,newRow,grownCap]
    congr 2
    apply Array.ext';simp [List.append_assoc]
  ·refine ⟨hsl,hge,.inr ⟨w.heap.size,_,rfl,rfl,heap_alloc_new w.drew _,?_,hcm,?_⟩⟩
   ·simp only [Array.size_append,List.size_toArray,size_zeroCells,hzs,hxl];omega
   ·simp only [Array.toList_append,List.append_assoc];rw [<- List.append_assoc,<- hsl];exact List.take_left
def bv (l:List UInt8):List Value:=l.map fun b=>Value.int .u8 (b.toNat:Int)
theorem Yn (l:List UInt8):(bv l).length=l.length:=by simp [bv]
theorem Hf (l r:List UInt8):bv (l++r)=bv l++bv r:=by simp [bv]
theorem Zcu (l:List UInt8):∀ u∈bv l,u.oneCell'=true:=by
 intro u hu;simp only [bv,List.mem_map] at hu;obtain ⟨b,_,rfl⟩:=hu;rfl
theorem Za2 (s:ByteArray):Lib.strCells s=bv s.data.toList:=rfl
def str (l:List UInt8):ByteArray:=⟨l.toArray⟩
theorem Th (l:List UInt8):(str l).toList=l:=ByteArray.toList_mk l
theorem MC (l:List UInt8):(str l).size=l.length:=by simp [str,ByteArray.size]
theorem foldl_push (l:List UInt8):(l.map fun b=>(b.toNat:Int)).foldl (fun r n=>r.push (UInt8.ofNat n.toNat)) ByteArray.empty=str l:=by
 have h:∀ (l:List UInt8) (s:ByteArray),(l.map fun b=>(b.toNat:Int)).foldl (fun r n=>r.push (UInt8.ofNat n.toNat)) s=⟨s.data++l.toArray⟩:=by
  intro l
  induction l with
  | nil=>intro s; simp
  | cons b l ih =>
   intro s;rw [List.map_cons,List.foldl_cons,ih];simp [ByteArray.push]
 rw [h];simp [str,ByteArray.empty,ByteArray.emptyWithCapacity];rfl
theorem B5 {P:Program} {w:World} {src dst e:TypeId} (hs:P.underlying src=some (.slice e)) (he:P.underlying e=some (.int .u8)) (hd:P.underlying dst=some .string)
  {S:Nat->Prop} {A:Option Addr} {n c:Nat} {l:List UInt8} (h:Cs w S A n (bv l)):(convert src dst (.slice A n c)).run P w = .ok (.string (str l)) w:=by
 rw [run_convert_bytes_string w src dst e _ n c hs he hd];have hl:l.length=n:=by rw [<- Yn]; exact h.1
 cases A with
 | none =>
  have hn:n=0:=by
   rcases Nat.eq_zero_or_pos n with h0 | h0
   ·exact h0
   ·obtain ⟨_,_,e,_⟩:=h.2 h0; cases e
  have hl0:l=[]:=List.eq_nil_of_length_eq_zero (by omega);subst hl0;simp [Conv.bytesToString,str,ByteArray.empty,ByteArray.emptyWithCapacity];rfl
 | some ad =>
  have hload:(loadCells ad n).run P w = .ok ((l.map fun b=>(b.toNat:Int)).map (Value.int .u8)).toArray w:=by
   have h1:=h.Pb (P:=P) c;simp only [Builtin.firstCells,Nat.mul_one] at h1;rw [h1];simp [bv,List.map_map,Function.comp_def]
  rw [run_bytesToString w ad n c _ hload,foldl_push]
section ops
variable {P:Program} {ops:Array Oper} {rest:List Oper} {o:Oper} {a:Act} {w:World} {Q:Exit->Act->World->Prop} {K:Act->World->Prop} {E:Prop}
theorem Dy {v:Value} {w':World} (hrun:(execOp a.eval o).run P w = .ok (.value v) w') (hk:K (a.put o.dst v) w'):o.wp P a w K Q:=by
 unfold Oper.wp;rw [hrun];exact hk
theorem WN {v:Value} {w':World} (hgd:o.guard=none) (hrun:(execOp a.eval o).run P w = .ok (.value v) w') (hk:wpList P ops Q rest (a.put o.dst v) w'):wpList P ops Q (o::rest) a w :=
 wpList_plain hgd fun _ hK=>Dy hrun (hK _ _ hk)
theorem B6 {v:Value} {w':World} (hgd:o.guard=none) (hrun:(execOp a.eval o).run P w = .ok (.value v) w') (hk:K (a.put o.dst v) w') :
  if Region.wanted o (yielded ops a.tmps)=true then Oper.wp P o a w K Q else E:=by
 rw [if_pos (by simp [Region.wanted,hgd])];exact Dy hrun hk
theorem Vu {ρ : Operand->Value} {s x:Operand} {t u:TypeId} (ho:o.op = .call { callee := .builtin .append,args := #[s,x],argTypes := #[t,u] }) {v:Value} {w':World}
  (h:(Builtin.append_ #[t,u] o.type #[ρ s,ρ x]).run P w = .ok v w'):(execOp ρ o).run P w = .ok (.value v) w':=by
 unfold execOp;simp only [ho,resolve,invoke,builtin,Sem.run_bind,Sem.run_pure,Result.andThen_ok,List.map_toArray,List.map_cons,List.map_nil,h]
theorem G2 {ρ : Operand->Value} {x:Operand} {src dst:TypeId} (ho:o.op = .convert src dst x) {v:Value} {w':World}
  (h:(convert src dst (ρ x)).run P w = .ok v w'):(execOp ρ o).run P w = .ok (.value v) w':=by
 unfold execOp;simp only [ho,Sem.run_bind,Sem.run_pure,Result.andThen_ok,h]
structure ZfD (P:Program) (t u e:TypeId) (aU:Nat):Prop where
 ht:P.underlying t=some (.slice e)
 hu:(∃ d,P.underlying u=some (.slice d))\/P.underlying u=some .string
 hi:∃ i z,P.info? e=some i/\i.zero=some z/\i.size=1/\i.bytes=aU/\z.cells.size=1
theorem Dz {t u ty e:TypeId} {aU:Nat} (T:ZfD P t u e aU)
  {own:Option Nat} {A:Option Addr} {n cap:Nat} {xs news:List Value} {x:Value} (h:Own w e own A n cap xs) (hx:Src P w x news)
  (h1:∀ u∈news,u.oneCell'=true) (h63:n+news.length<=9223372036854775807) (hbytes:(n+news.length)*aU<=140737488355328) :
  ∃ own' A' cap' w',(Builtin.append_ #[t,u] ty #[.slice A n cap,x]).run P w = .ok (.slice A' (n+news.length) cap') w'/\Own w' e own' A' (n+news.length) cap' (xs++news) /\
   (own'=own\/own'=some w.heap.size)/\Chg (fun k=>own=some k) w w':=by
 obtain ⟨ht,hu,⟨i,z,hi,hz,hs,hb,hzs⟩⟩:=T;exact B4 ht hu hi hz hs hb hzs h hx h1 h63 hbytes
theorem Wh (hgd:o.guard=none) (s x:Operand) (t u:TypeId) (ho:o.op = .call { callee := .builtin .append,args := #[s,x],argTypes := #[t,u] })
  (e:TypeId) (aU:Nat) (T:ZfD P t u e aU) (own:Option Nat) (A:Option Addr) (n cap:Nat) (xs news:List Value) (xv:Value)
  (hs:a.eval s = .slice A n cap) (hxv:a.eval x=xv) (h:Own w e own A n cap xs) (hx:Src P w xv news)
  (h1:∀ u∈news,u.oneCell'=true) (N:Nat) (hN:n+news.length=N) (h63:N<=9223372036854775807) (hbytes:N*aU<=140737488355328)
  (k:∀ own' A' cap' w',Own w' e own' A' N cap' (xs++news)->(own'=own\/own'=some w.heap.size)->Chg (fun k=>own=some k) w w'->wpList P ops Q rest (a.put o.dst (.slice A' N cap')) w') :
  wpList P ops Q (o::rest) a w:=by
 subst hN;obtain ⟨own',A',cap',w',hr,h2,h3,h4⟩:=Dz (ty:=o.type) T h hx h1 h63 hbytes;exact WN hgd (Vu ho (by rw [hs,hxv]; exact hr)) (k own' A' cap' w' h2 h3 h4)
theorem LN (hgd:o.guard=none) (x:Operand) (src dst e:TypeId) (ho:o.op = .convert src dst x)
  (hs:P.underlying src=some (.slice e)) (he:P.underlying e=some (.int .u8)) (hd:P.underlying dst=some .string)
  (S:Nat->Prop) (A:Option Addr) (n c:Nat) (l:List UInt8) (hx:a.eval x = .slice A n c) (h:Cs w S A n (bv l))
  (k:wpList P ops Q rest (a.put o.dst (.string (str l))) w):wpList P ops Q (o::rest) a w :=
 WN hgd (G2 ho (by rw [hx]; exact B5 hs he hd h)) k
end ops
theorem Hd {p:Prop} (h:p):Hid p:=Lib.hid h
end
section
open Go.RowKit
theorem Za3 {n:Nat} (h:n<=1125899906842624) (w:World):(callFunc 218 #[.float .f64 (fl n)]).run prog w = .ok (.value (.float .f64 (fl n))) w:=by
 rw [run_callFunc_extern func218 (by kernel_rfl) (by kernel_rfl) (by kernel_rfl) (e:=Extern.MathFloor.toIntegral "math.archTrunc" .zero) (by kernel_rfl)]
 have h1:=Zcr (n:=n) (by omega);have h2:=MA (n:=n) (by omega)
 have e:Extern.MathFloor.toIntegral "math.archTrunc" .zero #[.float .f64 (fl n)]=(match FloatKind.f64.decode (fl n) with
  | .nan s t =>
   if FloatKind.f64.format.quiet t=t then pure (.float .f64 (fl n)) else do
   let kept ← choose (.extern "math.Floor,Ceil,Trunc,RoundToEven.signallingNaN kept" 2)
   pure (.float .f64 (if kept==1 then (fl n) else FloatKind.f64.encode (.nan s (FloatKind.f64.format.quiet t))))
  | d=>pure (.float .f64 (FloatKind.f64.encode (d.integral .zero)))):=rfl
 have h3:∃ s m p,FloatKind.f64.decode (fl n) = .number s m p:=by
  rw [h2]; unfold Za0; split <;> exact ⟨_,_,_,rfl⟩
 obtain ⟨s,m,p,h3⟩:=h3;rw [e];rw [h3] at h1 ⊢;simp only [h1,Sem.run_pure,Result.andThen]
theorem ZfE:fl 1125899906842624=4832362400168542208:=by decide +kernel
theorem DA {n:Nat} (h:n<=1125899906842624) (w:World):Calls prog 135 #[.float .f64 (fl n)] w fun e w'=>e = .returned (.float .f64 (fl n))/\Chg (fun _=>False) w w':=by
 have h1:=fun w=>Za3 h w
 go_enter func135,ntmps135
 go_wp2_with fail
 go_ret
 exact ⟨rfl,Chg.refl _ _⟩
theorem I6 {n:Nat} (h:n<=1125899906842624):FloatKind.f64.format.order (fl n) 0=some .gt\/FloatKind.f64.format.order (fl n) 0=some .eq:=by
 have h2:=TN (a:=n) (b:=0) (by omega) (by omega);rw [X2] at h2;rw [h2];simp only [Int.compare_eq_ite_lt];rcases Nat.eq_zero_or_pos n with rfl | h0
 ·exact .inr rfl
 ·rw [if_neg (by omega),if_pos (by omega)]; exact .inl rfl
theorem I7 {n:Nat} (h:n<=1125899906842624):FloatKind.f64.format.order (fl n) 4832362400168542208=some .lt\/FloatKind.f64.format.order (fl n) 4832362400168542208=some .eq:=by
 have h2:=TN (a:=n) (b:=1125899906842624) (by omega) (by omega);rw [ZfE] at h2;rw [h2];simp only [Int.compare_eq_ite_lt];rcases Nat.lt_or_ge n 1125899906842624 with h0 | h0
 ·rw [if_pos (by omega)]; exact .inl rfl
 ·rw [if_neg (by omega),if_neg (by omega)]; exact .inr rfl
theorem I8 {n:Nat} (h:n<=1125899906842624):FloatKind.f64.format.order (fl n) (fl n)=some .eq:=by
 rw [TN (a:=n) (b:=n) (by omega) (by omega)];simp only [Int.compare_eq_ite_lt];rw [if_neg (by omega),if_neg (by omega)]
theorem Pc {n:Nat} (h:n<=1125899906842624) (w:World):Calls prog 85 #[.float .f64 (fl n)] w fun e w'=>e = .returned (.bool true)/\Chg (fun _=>False) w w':=by
 have h4:=I8 h;rcases I6 h with h2 | h2 <;> rcases I7 h with h3 | h3
 all_goals
  go_enter func85,ntmps85
  go_wp2_with fail
  refine (DA h w).mono ?_;rintro _ w1 ⟨rfl,hc⟩
  go_wp2_with fail
  go_ret
  exact ⟨rfl,hc⟩
def tc (a b:Nat):Value := .complex .f64 (fl a) (fl b)
theorem Jw {a b:Nat} (ha:a<=1125899906842624) (hb:b<=1125899906842624) (w:World):Calls prog 55 #[tc a b] w fun e w'=>e = .returned (.bool true)/\Chg (fun _=>False) w w':=by
 unfold tc
 go_enter func55,ntmps55
 go_wp2_with fail
 refine (Pc ha w).mono ?_;rintro _ w1 ⟨rfl,hc⟩
 go_wp2_with fail
 refine (Pc hb w1).mono ?_;rintro _ w2 ⟨rfl,hc2⟩
 go_wp2_with fail
 go_ret
 exact ⟨rfl,hc.trans hc2 fun _ _ h=>h⟩
def tn (n:Int):Value:=tc n.toNat (-n).toNat
theorem DB {n:Nat} (h:n<=1125899906842624) (src dst:TypeId) (w:World) (hs:(prog.underlying src).isSome=true) (hd:prog.underlying dst=some (.int .i64)) :
  (convert src dst (.float .f64 (fl n))).run prog w = .ok (.int .i64 (n:Int)) w:=by
 refine run_convert_float_int w src dst .f64 .i64 _ _ hs hd ?_;unfold floatToIntVal;rw [Zcs (by omega)];simp only;rw [if_pos];simp only [IntKind.min,IntKind.max,IntKind.signed,IntKind.bits];omega
theorem MD (n:Nat) (src dst:TypeId) (w:World) (hs:(prog.underlying src).isSome=true) (hd:prog.underlying dst=some (.float .f64)) :
  (convert src dst (.int .i64 (n:Int))).run prog w = .ok (.float .f64 (fl n)) w :=
 run_convert_int_float w src dst .i64 .f64 _ hs hd
theorem DC {a b:Nat} (ha:a<=1125899906842624) (hb:b<=1125899906842624) (w:World):Calls prog 41 #[tc a b] w fun e w'=>e = .returned (.tuple #[.int .i64 (a:Int),.int .i64 (b:Int),.bool true])/\Chg (fun _=>False) w w':=by
 have h1:=Jw ha hb w;unfold tc at h1 ⊢;have h2:=fun w=>DB ha 85 2 w (by kernel_rfl) (by kernel_rfl);have h3:=fun w=>DB hb 85 2 w (by kernel_rfl) (by kernel_rfl)
 go_enter func41,ntmps41
 go_wp2_with fail
 refine h1.mono ?_;rintro _ w1 ⟨rfl,hc⟩
 go_wp2_with fail
 go_ret3
 exact ⟨rfl,hc⟩
theorem QW {a b:Nat} (ha:a<=1125899906842624) (hb:b<=1125899906842624) (w:World):Calls prog 30 #[tc a b] w fun e w'=>e = .returned (.int .i64 ((a:Int)-(b:Int)))/\Chg (fun _=>False) w w':=by
 have h1:=DC ha hb w;have hw:IntKind.i64.wrap ((a:Int)-(b:Int))=(a:Int)-(b:Int):=IntWalk.i64_in _ (by omega);unfold tc at h1 ⊢
 go_enter func30,ntmps30
 go_wp2_with fail
 refine h1.mono ?_;rintro _ w1 ⟨rfl,hc⟩
 go_wp2_with fail
 go_ret
 exact ⟨rfl,hc⟩
theorem MF (a b:Nat) (w:World):Calls prog 165 #[.int .i64 (a:Int),.int .i64 (b:Int)] w fun e w'=>e = .returned (tc a b)/\Chg (fun _=>False) w w':=by
 unfold tc;have h2:=fun w=>MD a 2 85 w (by kernel_rfl) (by kernel_rfl);have h3:=fun w=>MD b 2 85 w (by kernel_rfl) (by kernel_rfl)
 go_enter func165,ntmps165
 go_wp2_with fail
 go_ret
 exact ⟨rfl,Chg.refl _ _⟩
theorem DD {n:Int} (hl : -1125899906842624<=n) (hu:n<=1125899906842624) (w:World):Calls prog 400 #[.int .i64 n] w fun e w'=>e = .returned (tn n)/\Chg (fun _=>False) w w':=by
 have h1:∀ x y:Int,x=(n.toNat:Int)->y=((-n).toNat:Int)->Calls prog 165 #[.int .i64 x,.int .i64 y] w fun e w'=>e = .returned (tn n)/\Chg (fun _=>False) w w':=by
  rintro _ _ rfl rfl;exact MF n.toNat (-n).toNat w
 have hw:IntKind.i64.wrap (-n) = -n:=IntWalk.i64_in _ (by omega)
 go_enter func400,ntmps400
 go_wp2_with fail
 all_goals
  refine (h1 _ _ (by omega) (by omega)).mono ?_;rintro _ w1 ⟨rfl,hc⟩
  go_wp2_with fail
  go_ret
  exact ⟨rfl,hc⟩
theorem G3 {a b:Nat} (ha:a<=1125899906842624) (hb:b<=1125899906842624) (w:World):Calls prog 289 #[tc a b] w fun e w'=>e = .returned (tn ((a:Int)-b))/\Chg (fun _=>False) w w':=by
 have h1:=QW ha hb w;unfold tc at h1 ⊢
 go_enter func289,ntmps289
 go_wp2_with fail
 refine h1.mono ?_;rintro _ w1 ⟨rfl,hc⟩
 go_wp2_with fail
 refine (DD (by omega) (by omega) w1).mono ?_;rintro _ w2 ⟨rfl,hc2⟩
 go_wp2_with fail
 go_ret
 exact ⟨rfl,hc.trans hc2 fun _ _ h=>h⟩
def Pd (n:Int):Value:=if -1125899906842624<=n/\n<=1125899906842624 then .tuple #[tn n,.bool true] else .tuple #[tn 0,.bool false]
theorem DE (n:Int):∃ t b,Pd n = .tuple #[t,.bool b]:=by
 unfold Pd;split
 ·exact ⟨_,_,rfl⟩
 ·exact ⟨_,_,rfl⟩
theorem G4:tn 0 = .complex .f64 0 0:=by
 show Value.complex .f64 (fl 0) (fl 0)=_;rw [X2]
theorem B7 {n:Int} (hl : -9223372036854775807<=n) (hu:n<=9223372036854775807) (w:World):Calls prog 399 #[.int .i64 n,.bool true] w fun e w'=>e = .returned (Pd n)/\Chg (fun _=>False) w w':=by
 have hw:IntKind.i64.wrap (-n) = -n:=IntWalk.i64_in _ (by omega);unfold Pd;by_cases h0:n>1125899906842624
 ·rw [if_neg (by omega),G4]
  go_enter func399,ntmps399
  go_wp2_with fail
  go_ret2
  exact ⟨rfl,Chg.refl _ _⟩
 ·have h0':n<=1125899906842624:=by omega
  by_cases h1 : -n>1125899906842624
  ·rw [if_neg (by omega),G4]
   go_enter func399,ntmps399
   go_wp2_with fail
   go_ret2
   exact ⟨rfl,Chg.refl _ _⟩
  ·rw [if_pos ⟨by omega,by omega⟩];have h1' : -n<=1125899906842624:=by omega
   go_enter func399,ntmps399
   go_wp2_with fail
   refine (DD (by omega) (by omega) w).mono ?_;rintro _ w2 ⟨rfl,hc2⟩
   go_wp2_with fail
   go_ret2
   exact ⟨rfl,hc2⟩
theorem B8 {a b c d:Nat} (ha:a<=1125899906842624) (hb:b<=1125899906842624) (hc:c<=1125899906842624) (hd:d<=1125899906842624) (w:World) :
  Calls prog 287 #[tc a b,tc c d] w fun e w'=>e = .returned (Pd (((a:Int)-b)+((c:Int)-d)))/\Chg (fun _=>False) w w':=by
 have h1:=QW ha hb;have h2:=QW hc hd;have h3:=Jw ha hb;have h4:=Jw hc hd;have hw:IntKind.i64.wrap (((a:Int)-b)+((c:Int)-d))=((a:Int)-b)+((c:Int)-d):=IntWalk.i64_in _ (by omega);unfold tc at h1 h2 h3 h4 ⊢
 go_enter func287,ntmps287
 go_wp2_with fail
 refine (h1 w).mono ?_;rintro _ w1 ⟨rfl,hc1⟩
 go_wp2_with fail
 refine (h2 w1).mono ?_;rintro _ w2 ⟨rfl,hc2⟩
 go_wp2_with fail
 refine (h3 w2).mono ?_;rintro _ w3 ⟨rfl,hc3⟩
 go_wp2_with fail
 refine (h4 w3).mono ?_;rintro _ w4 ⟨rfl,hc4⟩
 go_wp2_with fail
 refine (B7 (by omega) (by omega) w4).mono ?_;rintro _ w5 ⟨rfl,dx⟩;have hcc:=(((hc1.trans hc2 fun _ _ h=>h).trans hc3 fun _ _ h=>h).trans hc4 fun _ _ h=>h).trans dx fun _ _ h=>h;clear h1 h2 h3 h4 hc1 hc2 hc3 hc4 dx;obtain ⟨t,b,hs⟩:=DE (((a:Int)-b)+((c:Int)-d));rw [hs]
 go_wp2_with fail
 go_ret2
 exact ⟨by rw [hs]; rfl,hcc⟩
theorem DF {a b:Nat} (ha:a<=1125899906842624) (hb:b<=1125899906842624) (w:World):Calls prog 173 #[tc a b] w fun e w'=>e = .returned (tc b a)/\Chg (fun _=>False) w w':=by
 have h1:=Jw ha hb w;unfold tc at h1 ⊢
 go_enter func173,ntmps173
 go_wp2_with fail
 refine h1.mono ?_;rintro _ w1 ⟨rfl,hc⟩
 go_wp2_with fail
 go_ret
 exact ⟨rfl,hc⟩
end
section
theorem EF {P:Program} {ops:Array Oper} {Q:Exit->Act->World->Prop} {md:Region.Mode} {S:World->Prop} {i:Nat} (d:Option Tmp) {oi:Oper} {v:Value} {fuel:Nat} {listed:Array Bool} {a:Act} {w:World} (hi:ops[i]? = some oi) (hd:oi.dst=d)
  (hs:Region.noSelect ops=true) (hf:Region.free md ops listed i=true) (hr:(Region.ready md ops listed).contains i=true)
  (hQ:∀ c a w,Q (.panic c) (a.put d v) w->Q (.panic c) a w) (hy:YieldsIf P ops S oi v a) (hS:S w)
  (h:wpAnyH P md ops Q S fuel (listed.setIfInBounds i true) (a.put d v) w):wpAnyH P md ops Q S (fuel+1) listed a w:=by
 subst hd;exact wpAnyH_take hi hs hf hr hQ hy hS h
end
section
open Go.RowKit
structure Vl where
 k:Int
 n:Int
 s:List UInt8
 deriving DecidableEq
def Vl.cells (v:Vl):List Value:=[.int .i64 v.k,.int .i64 v.n,.string (str v.s)]
def Vl.val (v:Vl):Value := .agg #[.int .i64 v.k,.int .i64 v.n,.string (str v.s)]
def Vl.right (v:Vl):Bool:=if v.k=1 then v.s.isEmpty else if v.k=2 then decide (v.n=0) && decide (v.s.length<=40) else false
theorem X3 (v:Vl) (w:World) (hl:v.s.length<=9223372036854775807):Calls prog 271 #[v.val] w fun e w'=>e = .returned (.bool v.right)/\Chg (fun _=>False) w w':=by
 obtain ⟨k,n,s⟩:=v;have h1:=MC s;have h2:=Th s;unfold Vl.val Vl.right;simp only at hl ⊢;by_cases k1:k=1
 ·subst k1
  go_enter func271,ntmps271
  go_wp2_with fail
  go_ret
  exact ⟨rfl,(Chg.refl _ w).alloc _⟩
 ·rw [if_neg k1];by_cases k2:k=2
  ·subst k2;by_cases hn:n=0
   ·subst hn;by_cases hs:s.length<=40
    all_goals
     go_enter func271,ntmps271
     go_wp2_with fail
     go_ret
     exact ⟨by simp; omega,(Chg.refl _ w).alloc _⟩
   ·go_enter func271,ntmps271
    go_wp2_with fail
    go_ret
    exact ⟨by simp [hn],(Chg.refl _ w).alloc _⟩
  ·rw [if_neg k2]
   go_enter func271,ntmps271
   go_wp2_with fail
   go_ret
   exact ⟨rfl,(Chg.refl _ w).alloc _⟩
def Vl.less (a b:Vl):Bool:=if a.right && b.right then (if a.k=b.k then (if a.k=1 then decide (a.n<b.n) else Op.bytesLess a.s b.s) else decide (a.k=1)) else false
theorem Z6 {w:World} {B:Nat} {x y z:Value} {t:TypeId} {fr:Nat×Nat} (h:w.heap[B]? = some (.cells #[x,y,z] t fr)) :
  w.cell? ⟨B,0,none⟩=some x/\w.cell? ⟨B,1,none⟩=some y/\w.cell? ⟨B,2,none⟩=some z :=
 ⟨by rw [cell_of_row w B 0 _ t fr h]; rfl,by rw [cell_of_row w B 1 _ t fr h]; rfl,by rw [cell_of_row w B 2 _ t fr h]; rfl⟩
theorem Qw {w w1:World} {o p:Obj} (hc:Chg (fun _=>False) ((w.alloc o).alloc p) w1):w1.heap[w.heap.size]? = some o/\w1.heap[w.heap.size+1]? = some p:=by
 have h1:((w.alloc o).alloc p).heap[w.heap.size]? = some o:=by
  show ((w.heap.push o).push p)[w.heap.size]? = _;rw [Array.getElem?_push,if_neg (by simp),Array.getElem?_push_size]
 have h2:((w.alloc o).alloc p).heap[w.heap.size+1]? = some p:=by
  show ((w.heap.push o).push p)[w.heap.size+1]? = _;rw [show w.heap.size+1=(w.heap.push o).size by simp,Array.getElem?_push_size]
 exact ⟨hc.heap h1 fun h=>h,hc.heap h2 fun h=>h⟩
theorem KW (a b:Vl) (w:World) (ha:a.s.length<=9223372036854775807) (hb:b.s.length<=9223372036854775807):Calls prog 398 #[a.val,b.val] w fun e w'=>e = .returned (.bool (a.less b))/\Chg (fun _=>False) w w':=by
 have h1:=fun w=>X3 a w ha;have h2:=fun w=>X3 b w hb;have e1:=Th a.s;have e2:=Th b.s;unfold Vl.less;obtain ⟨ra,hra⟩:∃ r,a.right=r:=⟨_,rfl⟩
 obtain ⟨rb,hrb⟩:∃ r,b.right=r:=⟨_,rfl⟩
 rw [hra] at h1 ⊢;rw [hrb] at h2 ⊢;clear hra hrb;unfold Vl.val at h1 h2 ⊢;obtain ⟨ka,na,sa⟩:=a;obtain ⟨kb,nb,sb⟩:=b;simp only at ha hb h1 h2 e1 e2 ⊢;cases ra
 ·go_enter func398,ntmps398
  go_wp2_with fail
  refine (h1 _).mono ?_;rintro _ w1 ⟨rfl,hc⟩
  go_wp2_with fail
  go_ret
  exact ⟨rfl,(((Chg.refl _ w).alloc _).alloc _).trans hc fun _ _ h=>h⟩
 ·cases rb
  ·go_enter func398,ntmps398
   go_wp2_with fail
   refine (h1 _).mono ?_;rintro _ w1 ⟨rfl,hc⟩;obtain ⟨q0,q1,q2⟩:=Z6 (Qw hc).2
   go_wp2_with fail
   refine (h2 _).mono ?_;rintro _ w2 ⟨rfl,hc2⟩
   go_wp2_with fail
   go_ret
   exact ⟨rfl,((((Chg.refl _ w).alloc _).alloc _).trans hc fun _ _ h=>h).trans hc2 fun _ _ h=>h⟩
  ·rw [if_pos (show (true && true)=true from rfl)];by_cases hk:ka=kb
   ·subst hk;by_cases hk1:ka=1
    ·rw [if_pos rfl,if_pos hk1];subst hk1
     go_enter func398,ntmps398
     go_wp2_with fail
     refine (h1 _).mono ?_;rintro _ w1 ⟨rfl,hc⟩;obtain ⟨q0,q1,q2⟩:=Z6 (Qw hc).2
     go_wp2_with fail
     refine (h2 _).mono ?_;rintro _ w2 ⟨rfl,hc2⟩;have hcc:=hc.trans hc2 fun _ _ h=>h;obtain ⟨q0,q1,q2⟩:=Z6 (Qw hcc).2;obtain ⟨p0,p1,p2⟩:=Z6 (Qw hcc).1;by_cases hn:na<nb
     all_goals
      go_wp2_with fail
      go_ret
      exact ⟨by simp [hn],(((Chg.refl _ w).alloc _).alloc _).trans hcc fun _ _ h=>h⟩
    ·rw [if_pos rfl,if_neg hk1]
     go_enter func398,ntmps398
     go_wp2_with fail
     refine (h1 _).mono ?_;rintro _ w1 ⟨rfl,hc⟩;obtain ⟨q0,q1,q2⟩:=Z6 (Qw hc).2
     go_wp2_with fail
     refine (h2 _).mono ?_;rintro _ w2 ⟨rfl,hc2⟩;have hcc:=hc.trans hc2 fun _ _ h=>h;obtain ⟨q0,q1,q2⟩:=Z6 (Qw hcc).2;obtain ⟨p0,p1,p2⟩:=Z6 (Qw hcc).1
     go_wp2_with fail
     go_ret
     exact ⟨rfl,(((Chg.refl _ w).alloc _).alloc _).trans hcc fun _ _ h=>h⟩
   ·rw [if_neg hk]
    go_enter func398,ntmps398
    go_wp2_with fail
    refine (h1 _).mono ?_;rintro _ w1 ⟨rfl,hc⟩;obtain ⟨q0,q1,q2⟩:=Z6 (Qw hc).2
    go_wp2_with fail
    refine (h2 _).mono ?_;rintro _ w2 ⟨rfl,hc2⟩;have hcc:=hc.trans hc2 fun _ _ h=>h;obtain ⟨q0,q1,q2⟩:=Z6 (Qw hcc).2;obtain ⟨p0,p1,p2⟩:=Z6 (Qw hcc).1;by_cases ha1:ka=1
    all_goals
     go_wp2_with fail
     go_ret
     exact ⟨by simp [ha1],(((Chg.refl _ w).alloc _).alloc _).trans hcc fun _ _ h=>h⟩
end
section
open Go.RowKit
def VAt (w:World) (b o:Nat) (v:Vl):Prop :=
 w.cell? ⟨b,o,none⟩=some (.int .i64 v.k)/\w.cell? ⟨b,o+1,none⟩=some (.int .i64 v.n)/\w.cell? ⟨b,o+2,none⟩=some (.string (str v.s))/\v.s.length<=9223372036854775807
def Zm (F:Nat->Prop) (w:World) (v:Value) (r:List Vl):Prop :=
 ∃ A cap,v = .slice A r.length cap/\r.length<=cap/\cap<=9223372036854775807 /\
  (0<r.length->∃ b off,A=some ⟨b,off,none⟩/\F b/\b<w.heap.size/\∀ j x,r[j]? = some x->VAt w b (off+j*3) x)
theorem VAt.chg {T:Nat->Prop} {w w':World} {b o:Nat} {v:Vl} (h:VAt w b o v) (hc:Chg T w w') (hn:¬ T b):VAt w' b o v :=
 ⟨hc.cell h.1 hn,hc.cell h.2.1 hn,hc.cell h.2.2.1 hn,h.2.2.2⟩
theorem Zm.chg {F T:Nat->Prop} {w w':World} {v:Value} {r:List Vl} (h:Zm F w v r) (hc:Chg T w w') (hn:∀ b,F b->b<w.heap.size->¬ T b):Zm F w' v r:=by
 obtain ⟨A,cap,e,h1,h2,h3⟩:=h;refine ⟨A,cap,e,h1,h2,fun h0 => ?_⟩;obtain ⟨b,off,e2,hF,hb,h4⟩:=h3 h0;exact ⟨b,off,e2,hF,Nat.lt_of_lt_of_le hb hc.size,fun j x hx=>(h4 j x hx).chg hc (hn b hF hb)⟩
theorem Zm.Zf {F:Nat->Prop} {w w':World} {v:Value} {r:List Vl} (h:Zm F w v r) (hc:Chg (fun _=>False) w w'):Zm F w' v r:=h.chg hc fun _ _ _ h=>h
theorem Zm.mono {F G:Nat->Prop} {w:World} {v:Value} {r:List Vl} (h:Zm F w v r) (hn:∀ b,F b->b<w.heap.size->G b):Zm G w v r:=by
 obtain ⟨A,cap,e,h1,h2,h3⟩:=h;refine ⟨A,cap,e,h1,h2,fun h0 => ?_⟩;obtain ⟨b,off,e2,hF,hb,h4⟩:=h3 h0;exact ⟨b,off,e2,hn b hF hb,hb,h4⟩
theorem Zm.Xz (F:Nat->Prop) (w:World):Zm F w (.slice none 0 0) []:=⟨none,0,rfl,Nat.le_refl _,by decide,fun h=>absurd h (by simp)⟩
theorem MG (v:Vl) (w:World) (hl:v.s.length<=9223372036854775807):Calls prog 394 #[v.val] w fun e w'=>e = .returned (.bool (!v.right))/\Chg (fun _=>False) w w':=by
 have h1:=fun w=>X3 v w hl;obtain ⟨rb,hrb⟩:∃ r,v.right=r:=⟨_,rfl⟩
 rw [hrb] at h1 ⊢;unfold Vl.val at h1 ⊢
 go_enter func394,ntmps394
 go_wp2_with fail
 refine (h1 _).mono ?_;rintro _ w1 ⟨rfl,hc⟩
 go_wp2_with fail
 go_ret
 exact ⟨rfl,((Chg.refl _ w).alloc _).trans hc fun _ _ h=>h⟩
theorem Zcy {α : Type} (p : α -> Bool) (l:List α) (i:Nat) (h:∀ j,j<i->∀ x,l[j]? = some x->p x=false):l.any p=(l.drop i).any p:=by
 induction i generalizing l with
 | zero=>simp
 | succ i ih =>
  cases l with
  | nil=>simp
  | cons a l =>
   rw [List.any_cons,List.drop_succ_cons,h 0 (by omega) a rfl,Bool.false_or];exact ih l fun j hj x hx=>h (j+1) (by omega) x (by simpa using hx)
theorem G5 {F:Nat->Prop} {w:World} {v:Value} {r:List Vl} (h:Zm F w v r) :
  Calls prog 480 #[v,.func (.func 394) #[] #[]] w fun e w'=>(∃ n:Int,e = .returned (.int .i64 n)/\(decide (0<=n)=r.any (fun x => !x.right)) /\ -1<=n/\n<=9223372036854775807)/\Chg (fun _=>False) w w':=by
 obtain ⟨A,cap,rfl,hn,hcap,hat⟩:=h;have HA:=Hd hat;clear hat
 go_enter func480,ntmps480
 go_wp2_with fail
 go_loopw [8] (fun i wr=>∃ I:Nat,I<=r.length/\i = .int .i64 I/\Hid (∀ j,j<I->∀ x,r[j]? = some x->(fun x:Vl => !x.right) x=false)/\Chg (fun _=>False) w wr) (fun i _=>r.length-(intOf i).toNat)
 case atStart=>exact ⟨0,Nat.zero_le _,rfl,Hd (fun j h=>absurd h (by omega)),Chg.refl _ _⟩
 case round =>
  obtain ⟨I,hI,rfl,HB,hcw⟩:=hrel;by_cases hlt:I<r.length
  ·obtain ⟨b,off,rfl,_,hb,hx⟩:=HA.out (by omega);obtain ⟨x,ag⟩:∃ x,r[I]? = some x:=⟨_,List.getElem?_eq_getElem hlt⟩
   have hx:=(hx I x ag).chg hcw (fun h=>h);obtain ⟨q0,q1,q2,ql⟩:=hx;have hc1:=fun w=>MG x w ql;unfold Vl.val at hc1;have HX:=Hd ag;clear ag;obtain ⟨rb,hrb⟩:∃ r,x.right=r:=⟨_,rfl⟩
   rw [hrb] at hc1;cases rb
   ·go_wp2_with fail
    refine (hc1 _).mono ?_;rintro _ w1 ⟨rfl,hc⟩
    go_wp2_with fail
    go_ret
    refine ⟨⟨I,rfl,?_,by omega,by omega⟩,hcw.trans hc fun _ _ h=>h⟩;rw [Zcy _ r I HB.out,show r.drop I=x::r.drop (I+1) from ?_,List.any_cons,hrb]
    ·simp
    ·obtain ⟨h1,h2⟩:=List.getElem?_eq_some_iff.1 HX.out;rw [<- h2];exact List.drop_eq_getElem_cons h1
   ·go_wp2_with fail
    refine (hc1 _).mono ?_;rintro _ w1 ⟨rfl,hc⟩
    go_wp2_with fail
    go_roundw
    case rel =>
     refine ⟨I+1,by omega,by go_num,Hd fun j hj y hy => ?_,hcw.trans hc fun _ _ h=>h⟩;by_cases e:j=I
     ·subst e;rw [HX.out] at hy;cases hy;simp [hrb]
     ·exact HB.out j (by omega) y hy
    case measure=>simp [intOf]; omega
  ·have hge:¬ ((I:Int)<(r.length:Int)):=by omega
   go_wp2_with fail
   go_ret
   refine ⟨⟨-1,rfl,?_,by omega,by omega⟩,hcw⟩;have hI':I=r.length:=by omega
   rw [Zcy _ r I HB.out,hI',List.drop_length];rfl
theorem PU {F:Nat->Prop} {w:World} {v:Value} {r:List Vl} (h:Zm F w v r) :
  Calls prog 393 #[v,.func (.func 394) #[] #[]] w fun e w'=>e = .returned (.bool (r.any (fun x => !x.right)))/\Chg (fun _=>False) w w':=by
 have h1:=G5 h
 go_enter func393,ntmps393
 go_wp2_with fail
 refine h1.mono ?_;rintro _ w1 ⟨⟨n,rfl,hn,_,_⟩,hc⟩;by_cases h0:0<=n
 all_goals
  go_wp2_with fail
  go_ret
  exact ⟨by rw [<- hn]; simp [h0],hc⟩
def Zi (r:List Vl):Bool:=decide (0<r.length) && decide (r.length<=6) && !r.any (fun x => !x.right)
theorem Jx {F:Nat->Prop} {w:World} {v:Value} {r:List Vl} (h:Zm F w v r) :
  Calls prog 282 #[v] w fun e w'=>e = .returned (.bool (Zi r))/\Chg (fun _=>False) w w':=by
 have h1:=PU h;obtain ⟨A,cap,rfl,hn,hcap,hat⟩:=h;unfold Zi;obtain ⟨b,hb⟩:∃ b,r.any (fun x => !x.right)=b:=⟨_,rfl⟩
 rw [hb] at h1 ⊢;clear hb hat;by_cases h0:0<r.length
 ·by_cases h6:r.length<=6
  ·go_enter func282,ntmps282
   go_wp2_with fail
   refine h1.mono ?_;rintro _ w1 ⟨rfl,hc⟩
   go_wp2_with fail
   go_ret
   exact ⟨by simp [h0,h6],hc⟩
  ·go_enter func282,ntmps282
   go_wp2_with fail
   go_ret
   exact ⟨by simp [h0,h6],Chg.refl _ _⟩
 ·go_enter func282,ntmps282
  go_wp2_with fail
  go_ret
  exact ⟨by simp [h0],Chg.refl _ _⟩
def Vm (x y:Vl):Int:=if x.less y then -1 else if y.less x then 1 else 0
def Qu:List Vl->List Vl->Int
 | [],[]=>0
 | [],_::_ => -1
 | _::_,[]=>1
 | a::x,b::y=>if Vm a b=0 then Qu x y else Vm a b
theorem B9 (x y:Vl) (w:World) (hx:x.s.length<=9223372036854775807) (hy:y.s.length<=9223372036854775807):Calls prog 397 #[x.val,y.val] w fun e w'=>e = .returned (.int .i64 (Vm x y))/\Chg (fun _=>False) w w':=by
 have h1:=fun w=>KW x y w hx hy;have h2:=fun w=>KW y x w hy hx;unfold Vm;obtain ⟨ra,hra⟩:∃ r,x.less y=r:=⟨_,rfl⟩
 obtain ⟨rb,hrb⟩:∃ r,y.less x=r:=⟨_,rfl⟩
 rw [hra] at h1 ⊢;rw [hrb] at h2 ⊢;clear hra hrb;unfold Vl.val at h1 h2 ⊢;obtain ⟨kx,nx,sx⟩:=x;obtain ⟨ky,ny,sy⟩:=y;simp only at hx hy h1 h2 ⊢;cases ra
 ·cases rb
  all_goals
   go_enter func397,ntmps397
   go_wp2_with fail
   refine (h1 _).mono ?_;rintro _ w1 ⟨rfl,hc⟩;obtain ⟨q0,q1,q2⟩:=Z6 (Qw hc).2;obtain ⟨p0,p1,p2⟩:=Z6 (Qw hc).1
   go_wp2_with fail
   refine (h2 _).mono ?_;rintro _ w2 ⟨rfl,hc2⟩
   go_wp2_with fail
   go_ret
   exact ⟨rfl,((((Chg.refl _ w).alloc _).alloc _).trans hc fun _ _ h=>h).trans hc2 fun _ _ h=>h⟩
 ·go_enter func397,ntmps397
  go_wp2_with fail
  refine (h1 _).mono ?_;rintro _ w1 ⟨rfl,hc⟩
  go_wp2_with fail
  go_ret
  exact ⟨rfl,(((Chg.refl _ w).alloc _).alloc _).trans hc fun _ _ h=>h⟩
theorem DG {F G:Nat->Prop} {w:World} {v u:Value} {r q:List Vl} (h:Zm F w v r) (hu:Zm G w u q) :
  Calls prog 396 #[v,u,.func (.func 397) #[] #[]] w fun e w'=>e = .returned (.int .i64 (Qu r q))/\Chg (fun _=>False) w w':=by
 obtain ⟨A,cap,rfl,hn,hcap,hat⟩:=h;obtain ⟨B,cap2,rfl,hn2,hcap2,nk⟩:=hu;have HA:=Hd hat;have HB:=Hd nk;clear hat nk
 go_enter func396,ntmps396
 go_wp2_with fail
 go_loopw [13] (fun i wr=>∃ I:Nat,I<=r.length/\I<=q.length/\i = .int .i64 I/\Hid (Qu r q=Qu (r.drop I) (q.drop I))/\Chg (fun _=>False) w wr) (fun i _=>r.length-(intOf i).toNat)
 case atStart=>exact ⟨0,Nat.zero_le _,Nat.zero_le _,rfl,Hd (by simp),Chg.refl _ _⟩
 case round =>
  obtain ⟨I,hI,hI2,rfl,HC,hcw⟩:=hrel;by_cases hlt:I<r.length
  ·obtain ⟨b,off,rfl,_,hb,hx⟩:=HA.out (by omega);obtain ⟨x,ag⟩:∃ x,r[I]? = some x:=⟨_,List.getElem?_eq_getElem hlt⟩
   have hx:=(hx I x ag).chg hcw (fun h=>h);obtain ⟨q0,q1,q2,ql⟩:=hx;have HX:=Hd ag;clear ag;by_cases hlt2:I<q.length
   ·obtain ⟨b2,bT,rfl,_,hb2,hy⟩:=HB.out (by omega);obtain ⟨y,sJ⟩:∃ y,q[I]? = some y:=⟨_,List.getElem?_eq_getElem hlt2⟩
    have hy:=(hy I y sJ).chg hcw (fun h=>h);obtain ⟨p0,p1,p2,pl⟩:=hy;have HY:=Hd sJ;clear sJ;have hc1:=fun w=>B9 x y w ql pl;unfold Vl.val at hc1;have hbw:=Nat.lt_of_lt_of_le hb hcw.size;have hbw2:=Nat.lt_of_lt_of_le hb2 hcw.size;have hne:¬ wr.heap.size=b2:=by omega
    have hne':¬ b2=wr.heap.size:=by omega
    have hd1:r.drop I=x::r.drop (I+1):=by
     obtain ⟨h1,h2⟩:=List.getElem?_eq_some_iff.1 HX.out;rw [<- h2];exact List.drop_eq_getElem_cons h1
    have hd2:q.drop I=y::q.drop (I+1):=by
     obtain ⟨h1,h2⟩:=List.getElem?_eq_some_iff.1 HY.out;rw [<- h2];exact List.drop_eq_getElem_cons h1
    have HD:=Hd (HC.out.trans (by rw [hd1,hd2,Qu]));clear hd1 hd2 HX HY;obtain ⟨c,hcv⟩:∃ c,Vm x y=c:=⟨_,rfl⟩
    rw [hcv] at hc1 HD;by_cases h0:c=0
    ·subst h0
     go_wp2_with fail
     refine (hc1 _).mono ?_;rintro _ w1 ⟨rfl,hc⟩
     go_wp2_with fail
     go_roundw
     case rel=>exact ⟨I+1,by omega,by omega,by go_num,Hd (by simpa using HD.out),hcw.trans ((((Chg.refl _ wr).alloc _).alloc _).trans hc fun _ _ h=>h) fun _ _ h=>h⟩
     case measure=>simp [intOf]; omega
    ·go_wp2_with fail
     refine (hc1 _).mono ?_;rintro _ w1 ⟨rfl,hc⟩
     go_wp2_with fail
     go_ret
     exact ⟨by rw [HD.out,if_neg h0]; rfl,hcw.trans ((((Chg.refl _ wr).alloc _).alloc _).trans hc fun _ _ h=>h) fun _ _ h=>h⟩
   ·have hge:q.length<=I:=by omega
    go_wp2_with fail
    go_ret
    refine ⟨?_,hcw.trans ((Chg.refl _ wr).alloc _) fun _ _ h=>h⟩;rw [HC.out,show q.drop I=[] from List.drop_of_length_le hge];obtain ⟨h1,h2⟩:=List.getElem?_eq_some_iff.1 HX.out;rw [List.drop_eq_getElem_cons h1];rfl
  ·have hge:¬ ((I:Int)<(r.length:Int)):=by omega
   have hI':I=r.length:=by omega
   subst hI';by_cases hl:r.length<q.length
   ·go_wp2_with fail
    go_ret
    refine ⟨?_,hcw⟩;rw [HC.out,List.drop_length,List.drop_eq_getElem_cons hl];rfl
   ·go_wp2_with fail
    go_ret
    refine ⟨?_,hcw⟩;rw [HC.out,List.drop_length,List.drop_of_length_le (by omega)];rfl
theorem Ti {F G:Nat->Prop} {w:World} {v u:Value} {r q:List Vl} (h:Zm F w v r) (hu:Zm G w u q) :
  Calls prog 286 #[v,u] w fun e w'=>e = .returned (.int .i64 (Qu r q))/\Chg (fun _=>False) w w':=by
 have h1:=DG h hu
 go_enter func286,ntmps286
 go_wp2_with fail
 refine h1.mono ?_;rintro _ w1 ⟨rfl,hc⟩
 go_wp2_with fail
 go_ret
 exact ⟨rfl,hc⟩
def Mb (r q:List Vl):Bool:=Zi r && (Zi q && decide (Qu r q<0))
def KX (r q:List Vl):Bool:=Zi r && (Zi q && decide (Qu r q=0))
theorem DH {F G:Nat->Prop} {w:World} {v u:Value} {r q:List Vl} (h:Zm F w v r) (hu:Zm G w u q) :
  Calls prog 290 #[v,u] w fun e w'=>e = .returned (.bool (Mb r q))/\Chg (fun _=>False) w w':=by
 have h1:=Jx h;have h2:=fun w1 (hc:Chg (fun _=>False) w w1)=>Jx (hu.Zf hc);have h3:=fun w1 (hc:Chg (fun _=>False) w w1)=>Ti (h.Zf hc) (hu.Zf hc);unfold Mb;obtain ⟨b1,e1⟩:∃ b,Zi r=b:=⟨_,rfl⟩
 obtain ⟨b2,e2⟩:∃ b,Zi q=b:=⟨_,rfl⟩
 obtain ⟨c,e3⟩:∃ b,Qu r q=b:=⟨_,rfl⟩
 rw [e1] at h1 ⊢;rw [e2] at h2 ⊢;rw [e3] at h3 ⊢;clear e1 e2 e3 h hu;cases b1
 ·go_enter func290,ntmps290
  go_wp2_with fail
  refine h1.mono ?_;rintro _ w1 ⟨rfl,hc⟩
  go_wp2_with fail
  go_ret
  exact ⟨rfl,hc⟩
 ·cases b2
  ·go_enter func290,ntmps290
   go_wp2_with fail
   refine h1.mono ?_;rintro _ w1 ⟨rfl,hc⟩
   go_wp2_with fail
   refine (h2 _ hc).mono ?_;rintro _ w2 ⟨rfl,hc2⟩
   go_wp2_with fail
   go_ret
   exact ⟨rfl,hc.trans hc2 fun _ _ h=>h⟩
  ·by_cases h0:c<0
   all_goals
    go_enter func290,ntmps290
    go_wp2_with fail
    refine h1.mono ?_;rintro _ w1 ⟨rfl,hc⟩
    go_wp2_with fail
    refine (h2 _ hc).mono ?_;rintro _ w2 ⟨rfl,hc2⟩
    go_wp2_with fail
    refine (h3 _ (hc.trans hc2 fun _ _ h=>h)).mono ?_;rintro _ w3 ⟨rfl,hc3⟩
    go_wp2_with fail
    go_ret
    exact ⟨by simp [h0],(hc.trans hc2 fun _ _ h=>h).trans hc3 fun _ _ h=>h⟩
theorem Pe {F G:Nat->Prop} {w:World} {v u:Value} {r q:List Vl} (h:Zm F w v r) (hu:Zm G w u q) :
  Calls prog 272 #[v,u] w fun e w'=>e = .returned (.bool (KX r q))/\Chg (fun _=>False) w w':=by
 have h1:=Jx h;have h2:=fun w1 (hc:Chg (fun _=>False) w w1)=>Jx (hu.Zf hc);have h3:=fun w1 (hc:Chg (fun _=>False) w w1)=>Ti (h.Zf hc) (hu.Zf hc);unfold KX;obtain ⟨b1,e1⟩:∃ b,Zi r=b:=⟨_,rfl⟩
 obtain ⟨b2,e2⟩:∃ b,Zi q=b:=⟨_,rfl⟩
 obtain ⟨c,e3⟩:∃ b,Qu r q=b:=⟨_,rfl⟩
 rw [e1] at h1 ⊢;rw [e2] at h2 ⊢;rw [e3] at h3 ⊢;clear e1 e2 e3 h hu;cases b1
 ·go_enter func272,ntmps272
  go_wp2_with fail
  refine h1.mono ?_;rintro _ w1 ⟨rfl,hc⟩
  go_wp2_with fail
  go_ret
  exact ⟨rfl,hc⟩
 ·cases b2
  ·go_enter func272,ntmps272
   go_wp2_with fail
   refine h1.mono ?_;rintro _ w1 ⟨rfl,hc⟩
   go_wp2_with fail
   refine (h2 _ hc).mono ?_;rintro _ w2 ⟨rfl,hc2⟩
   go_wp2_with fail
   go_ret
   exact ⟨rfl,hc.trans hc2 fun _ _ h=>h⟩
  ·by_cases h0:c=0
   ·subst h0
    go_enter func272,ntmps272
    go_wp2_with fail
    refine h1.mono ?_;rintro _ w1 ⟨rfl,hc⟩
    go_wp2_with fail
    refine (h2 _ hc).mono ?_;rintro _ w2 ⟨rfl,hc2⟩
    go_wp2_with fail
    refine (h3 _ (hc.trans hc2 fun _ _ h=>h)).mono ?_;rintro _ w3 ⟨rfl,hc3⟩
    go_wp2_with fail
    go_ret
    exact ⟨rfl,(hc.trans hc2 fun _ _ h=>h).trans hc3 fun _ _ h=>h⟩
   ·go_enter func272,ntmps272
    go_wp2_with fail
    refine h1.mono ?_;rintro _ w1 ⟨rfl,hc⟩
    go_wp2_with fail
    refine (h2 _ hc).mono ?_;rintro _ w2 ⟨rfl,hc2⟩
    go_wp2_with fail
    refine (h3 _ (hc.trans hc2 fun _ _ h=>h)).mono ?_;rintro _ w3 ⟨rfl,hc3⟩
    go_wp2_with fail
    go_ret
    exact ⟨by simp [h0],(hc.trans hc2 fun _ _ h=>h).trans hc3 fun _ _ h=>h⟩
end
section
open Go.RowKit
def CsK (w:World) (S:Nat->Prop) (k:Nat) (A:Option Addr) (n:Nat) (xs:List Value):Prop :=
 xs.length=n*k/\(0<n->∃ b off,A=some ⟨b,off,none⟩/\S b/\b<w.heap.size/\∀ j u,xs[j]? = some u->w.cell? ⟨b,off+j,none⟩=some u)
def QD (w:World) (e:TypeId) (k:Nat) (own:Option Nat) (A:Option Addr) (n cap:Nat) (xs:List Value):Prop :=
 xs.length=n*k/\n<=cap/\((own=none/\cap=0)\/∃ g cur,own=some g/\A=some ⟨g,0,none⟩/\w.heap[g]? = some (.cells cur e (0,0))/\cap*k<=cur.size/\cap<=maxLen/\cur.toList.take (n*k)=xs)
namespace CsK
variable {w w':World} {S S' T:Nat->Prop} {A:Option Addr} {n k:Nat} {xs:List Value}
theorem chg (h:CsK w S k A n xs) (hc:Chg T w w') (hd:∀ b,S b->b<w.heap.size->¬ T b):CsK w' S k A n xs :=
 ⟨h.1,fun hn=>by
  obtain ⟨b,off,e,hs,hb,hcell⟩:=h.2 hn
  exact ⟨b,off,e,hs,Nat.lt_of_lt_of_le hb hc.size,fun j u hu=>hc.cell (hcell j u hu) (hd b hs hb)⟩⟩
theorem mono (h:CsK w S k A n xs) (hs:∀ b,S b->b<w.heap.size->S' b):CsK w S' k A n xs :=
 ⟨h.1,fun hn=>by
  obtain ⟨b,off,e,h1,hb,hcell⟩:=h.2 hn
  exact ⟨b,off,e,hs b h1 hb,hb,hcell⟩⟩
theorem Pb {P:Program} (h:CsK w S k A n xs) (c:Nat):(Builtin.firstCells k n (.slice A n c)).run P w = .ok xs.toArray w:=by
 by_cases hn:0<n
 ·obtain ⟨b,off,rfl,_,_,hcell⟩:=h.2 hn;exact run_firstCells_some (P:=P) w k n _ n c xs h.1 fun j u hu=>by rw [Jd]; exact hcell j u hu
 ·have h0:n=0:=by omega
  subst h0;have hx:xs=[]:=List.eq_nil_of_length_eq_zero (by rw [h.1,Nat.zero_mul]);subst hx;cases A <;> simp [Builtin.firstCells,loadCells,loadCellsFrom]
end CsK
namespace QD
variable {w w':World} {T:Nat->Prop} {e:TypeId} {own:Option Nat} {A:Option Addr} {n cap k:Nat} {xs:List Value}
theorem Xz (w:World) (e:TypeId) (k:Nat) (A:Option Addr):QD w e k none A 0 0 []:=⟨by simp,Nat.le_refl _,.inl ⟨rfl,rfl⟩⟩
theorem fits (h:QD w e k own A n cap xs):n<=cap:=h.2.1
theorem Wg (h:QD w e k own A n cap xs):cap<=9223372036854775807:=by
 rcases h.2.2 with ⟨_,h0⟩ | ⟨_,_,_,_,_,_,hm,_⟩
 ·omega
 ·simpa [maxLen] using hm
theorem lt (h:QD w e k own A n cap xs) {g:Nat} (hg:own=some g):g<w.heap.size:=by
 rcases h.2.2 with ⟨h0,_⟩ | ⟨g',cur,h0,_,hh,_⟩
 ·rw [h0] at hg; cases hg
 ·rw [h0] at hg; injection hg with hg; subst hg; exact lt_of_block hh
theorem chg (h:QD w e k own A n cap xs) (hc:Chg T w w') (hd:∀ b,own=some b->¬ T b):QD w' e k own A n cap xs:=by
 refine ⟨h.1,h.2.1,?_⟩;rcases h.2.2 with h0 | ⟨g,cur,h0,hA,hh,r⟩
 ·exact .inl h0
 ·exact .inr ⟨g,cur,h0,hA,hc.heap hh (hd g h0),r⟩
theorem cs (h:QD w e k own A n cap xs):CsK w (fun b=>own=some b) k A n xs:=by
 refine ⟨h.1,fun hn => ?_⟩;rcases h.2.2 with ⟨_,h0⟩ | ⟨g,cur,h0,hA,hh,hcs,_,ht⟩
 ·have:=h.2.1; omega
 ·refine ⟨g,0,hA,h0,lt_of_block hh,fun j u hu => ?_⟩;rw [Nat.zero_add,cell_of_row w g j cur e (0,0) hh];rw [<- ht,List.getElem?_take] at hu;split at hu
  ·simpa using hu
  ·cases hu
end QD
def X4 (P:Program) (w:World) (k:Nat) (x:Value) (m:Nat) (news:List Value):Prop :=
 news.length=m*k/\(Builtin.lenOf x).run P w = .ok m w/\(Builtin.firstCells k m x).run P w = .ok news.toArray w/\(Builtin.firstCells k m x).run P w.drew = .ok news.toArray w.drew
theorem X4.slice {P:Program} {w:World} {S:Nat->Prop} {k:Nat} {A:Option Addr} {n c:Nat} {xs:List Value} (h:CsK w S k A n xs):X4 P w k (.slice A n c) n xs:=by
 have h1:=h.Pb (P:=P) c;have h2:=(show CsK w.drew S k A n xs from h).Pb (P:=P) c;exact ⟨h.1,by simp [Builtin.lenOf],h1,h2⟩
theorem Pf {P:Program} {w:World} {t u ty e d:TypeId} {i:TypeInfo} {z:Value} {aU k:Nat}
  (ht:P.underlying t=some (.slice e)) (hu:P.underlying u=some (.slice d))
  (hi:P.info? e=some i) (hz:i.zero=some z) (hsize:i.size=k) (hby:i.bytes=aU) (hzs:z.cells.size=k) (hk:0<k)
  {own:Option Nat} {A:Option Addr} {n cap m:Nat} {xs news:List Value} {x:Value} (h:QD w e k own A n cap xs) (hx:X4 P w k x m news)
  (h1:∀ u∈news,u.oneCell'=true) (h63:n+m<=9223372036854775807) (hbytes:(n+m)*aU<=140737488355328) :
  ∃ own' A' cap' w',(Builtin.append_ #[t,u] ty #[.slice A n cap,x]).run P w = .ok (.slice A' (n+m) cap') w'/\QD w' e k own' A' (n+m) cap' (xs++news) /\
   (own'=own\/own'=some w.heap.size)/\Chg (fun b=>own=some b) w w':=by
 subst hby
 subst hsize;have hxl:=h.1;obtain ⟨dz,l1,l2,l3⟩:=hx;have hsl:(xs++news).length=(n+m)*i.size:=by rw [List.length_append,hxl,dz,Nat.add_mul]
 by_cases hroom:n+m<=cap
 ·rcases h.2.2 with ⟨h0,hc⟩ | ⟨g,cur,h0,hA,hh,hcs,hm,htk⟩
  ·have hm0:m=0:=by omega
   subst hm0;have hn0:news=[]:=List.eq_nil_of_length_eq_zero (by omega);subst hn0;refine ⟨own,A,cap,w,?_,by simpa using h,.inl rfl,Chg.refl _ w⟩;simp only [Nat.add_zero] at l1 l2 hroom ⊢;cases A <;> simp [Builtin.append_,run_underlying ht,run_underlying hu,sizeOf,typeInfo,hi,l1,l2,hroom,storeCells]
  ·subst hA;have hmul:(n+m)*i.size<=cur.size:=Nat.le_trans (Nat.mul_le_mul_right _ hroom) hcs;have hst:=run_storeCells_at P g (n*i.size) e news 0 cur w hh (by rw [Nat.add_zero,dz,<- Nat.add_mul]; exact hmul) h1;simp only [Nat.add_zero] at hst;refine ⟨own,some ⟨g,0,none⟩,cap,w.setRow g (cur.toList.take (n*i.size)++news++cur.toList.drop (n*i.size+news.length)).toArray,?_,?_,.inl rfl,(Chg.refl _ w).setRow (.inl h0) _⟩
   ·simp [Builtin.append_,run_underlying ht,run_underlying hu,sizeOf,typeInfo,hi,l1,l2,hroom,Addr.add_lit,hst]
   ·refine ⟨hsl,hroom,.inr ⟨g,_,h0,rfl,setRow_heap w g cur _ e _ hh,?_,hm,?_⟩⟩
    ·simp only [List.size_toArray,List.length_append,List.length_take,List.length_drop,Array.length_toList];rw [dz,<- Nat.add_mul];have:n*i.size<=(n+m)*i.size:=Nat.mul_le_mul_right _ (by omega);rw [Nat.add_mul] at hmul this ⊢;omega
    ·show List.take ((n+m)*i.size) (cur.toList.take (n*i.size)++news++cur.toList.drop (n*i.size+news.length))=_;rw [htk,<- hsl];exact List.take_left
 ·have hge:=grownCap_ge w (n+m) cap e;have hcm:grownCap w (n+m) cap e<=maxLen:=grownCap_le_maxLen w (n+m) cap e (by simp only [maxLen]; omega);have hn:¬ (n+m<=cap):=hroom;have h63':¬ (9223372036854775807<((n:Int)+(m:Int))):=by omega
  have hfit:=growslice_fits (need:=n+m) (old:=cap) (bytes:=i.bytes) (by omega) hbytes;have h48':¬ (281474976710656<Builtin.nextslicecap (n+m) cap*i.bytes):=by omega
  have hold:(Builtin.firstCells i.size n (.slice A n cap)).run P w.drew = .ok xs.toArray w.drew:=(show CsK w.drew _ _ _ _ _ from h.cs).Pb cap
  refine ⟨some w.heap.size,some ⟨w.heap.size,0,none⟩,grownCap w (n+m) cap e,
   w.drew.alloc (.cells (xs.toArray++news.toArray++Builtin.zeroCells z.cells (grownCap w (n+m) cap e-(n+m))) e),?_,?_,.inr rfl,((Chg.refl _ w).drew).alloc _⟩
  ·simp [Builtin.append_,run_underlying ht,run_underlying hu,sizeOf,typeInfo,zeroValue,hi,hz,l1,l3,hn,h63',h48',Question.forced,hold,newRow,grownCap]
   congr 2
   apply Array.ext';simp [List.append_assoc]
  ·refine ⟨hsl,hge,.inr ⟨w.heap.size,_,rfl,rfl,heap_alloc_new w.drew _,?_,hcm,?_⟩⟩
   ·simp only [Array.size_append,List.size_toArray,size_zeroCells,hzs,hxl,dz];rw [<- Nat.add_mul,<- Nat.add_mul];exact Nat.mul_le_mul_right _ (by omega)
   ·simp only [Array.toList_append,List.append_assoc];rw [<- List.append_assoc,<- hsl];exact List.take_left
section ops
variable {P:Program} {ops:Array Oper} {rest:List Oper} {o:Oper} {a:Act} {w:World} {Q:Exit->Act->World->Prop} {K:Act->World->Prop} {E:Prop}
structure Zcz (P:Program) (t u e:TypeId) (k aU:Nat):Prop where
 ht:P.underlying t=some (.slice e)
 hu:∃ d,P.underlying u=some (.slice d)
 hi:∃ i z,P.info? e=some i/\i.zero=some z/\i.size=k/\i.bytes=aU/\z.cells.size=k
 hk:0<k
theorem ZA (hgd:o.guard=none) (s x:Operand) (t u:TypeId) (ho:o.op = .call { callee := .builtin .append,args := #[s,x],argTypes := #[t,u] })
  (e:TypeId) (k aU:Nat) (T:Zcz P t u e k aU) (own:Option Nat) (A:Option Addr) (n cap m:Nat) (xs news:List Value) (xv:Value)
  (hs:a.eval s = .slice A n cap) (hxv:a.eval x=xv) (h:QD w e k own A n cap xs) (hx:X4 P w k xv m news)
  (h1:∀ u∈news,u.oneCell'=true) (N:Nat) (hN:n+m=N) (h63:N<=9223372036854775807) (hbytes:N*aU<=140737488355328)
  (kk:∀ own' A' cap' w',QD w' e k own' A' N cap' (xs++news)->(own'=own\/own'=some w.heap.size)->Chg (fun b=>own=some b) w w'->wpList P ops Q rest (a.put o.dst (.slice A' N cap')) w') :
  wpList P ops Q (o::rest) a w:=by
 subst hN;obtain ⟨ht,⟨d,hu⟩,⟨i,z,hi,hz,hs',hb,hzs⟩,hk⟩:=T;obtain ⟨own',A',cap',w',hr,h2,h3,h4⟩:=Pf (ty:=o.type) ht hu hi hz hs' hb hzs hk h hx h1 h63 hbytes;exact WN hgd (Vu ho (by rw [hs,hxv]; exact hr)) (kk own' A' cap' w' h2 h3 h4)
theorem J6 (hgd:o.guard=none) (s x:Operand) (t u:TypeId) (ho:o.op = .call { callee := .builtin .append,args := #[s,x],argTypes := #[t,u] })
  (e:TypeId) (k aU:Nat) (T:Zcz P t u e k aU) (own:Option Nat) (A:Option Addr) (n cap m:Nat) (xs news:List Value) (xv:Value)
  (hs:a.eval s = .slice A n cap) (hxv:a.eval x=xv) (h:QD w e k own A n cap xs) (hx:X4 P w k xv m news)
  (h1:∀ u∈news,u.oneCell'=true) (N:Nat) (hN:n+m=N) (h63:N<=9223372036854775807) (hbytes:N*aU<=140737488355328)
  (kk:∀ own' A' cap' w',QD w' e k own' A' N cap' (xs++news)->(own'=own\/own'=some w.heap.size)->Chg (fun b=>own=some b) w w'->K (a.put o.dst (.slice A' N cap')) w') :
  if Region.wanted o (yielded ops a.tmps)=true then Oper.wp P o a w K Q else E:=by
 subst hN;obtain ⟨ht,⟨d,hu⟩,⟨i,z,hi,hz,hs',hb,hzs⟩,hk⟩:=T;obtain ⟨own',A',cap',w',hr,h2,h3,h4⟩:=Pf (ty:=o.type) ht hu hi hz hs' hb hzs hk h hx h1 h63 hbytes;exact B6 hgd (Vu ho (by rw [hs,hxv]; exact hr)) (kk own' A' cap' w' h2 h3 h4)
end ops
end
section
open Go.RowKit
def Qg (r:List Vl):List Value:=r.flatMap Vl.cells
theorem YV (r:List Vl):(Qg r).length=r.length*3:=by
 induction r with
 | nil=>rfl
 | cons v r ih =>
  rw [Qg,List.flatMap_cons,List.length_append,List.length_cons];have:(List.flatMap Vl.cells r).length=r.length*3:=ih;rw [this];simp [Vl.cells];omega
theorem TO {α : Type} (f : α -> List Value) (k:Nat) (hk:∀ x,(f x).length=k):∀ (l:List α) (j i:Nat) (x : α),l[j]? = some x->i<k->(l.flatMap f)[j*k+i]? = (f x)[i]?
 | [],j,i,x,h,_=>by simp at h
 | a::l,0,i,x,h,hi=>by
  simp at h;subst h;rw [List.flatMap_cons,Nat.zero_mul,Nat.zero_add,List.getElem?_append_left (by rw [hk]; exact hi)]
 | a::l,j+1,i,x,h,hi=>by
  rw [List.flatMap_cons,List.getElem?_append_right (by rw [hk,Nat.add_mul]; omega),hk,show (j+1)*k+i-k=j*k+i by rw [Nat.add_mul]; omega];exact TO f k hk l j i x (by simpa using h) hi
theorem ZcA {α : Type} (f : α -> List Value) (k:Nat) (hk:∀ x,(f x).length=k) (l:List α):(l.flatMap f).length=l.length*k:=by
 induction l with
 | nil=>simp
 | cons a l ih=>rw [List.flatMap_cons,List.length_append,ih,hk,List.length_cons,Nat.add_mul]; omega
theorem MH {r:List Vl} {j:Nat} {x:Vl} (h:r[j]? = some x) {i:Nat} (hi:i<3):(Qg r)[j*3+i]? = x.cells[i]? :=
 TO Vl.cells 3 (fun _=>rfl) r j i x h hi
theorem MI (r:List Vl):∀ u∈Qg r,u.oneCell'=true:=by
 intro u hu;simp only [Qg,List.mem_flatMap,Vl.cells,List.mem_cons,List.not_mem_nil,or_false] at hu;obtain ⟨v,_,rfl | rfl | rfl⟩:=hu <;> rfl
def Zh9 (r:List Vl):Prop:=∀ x∈r,x.s.length<=9223372036854775807
theorem Zm.fit {F:Nat->Prop} {w:World} {v:Value} {r:List Vl} (h:Zm F w v r):Zh9 r:=by
 obtain ⟨A,cap,_,_,_,h3⟩:=h;intro x hx;obtain ⟨j,hj⟩:=List.getElem?_of_mem hx;obtain ⟨b,off,_,_,_,h4⟩:=h3 (by have:=(List.getElem?_eq_some_iff.1 hj).1; omega);exact (h4 j x hj).2.2.2
theorem Zm.csK {F:Nat->Prop} {w:World} {A:Option Addr} {n cap:Nat} {r:List Vl} (h:Zm F w (.slice A n cap) r):n=r.length/\CsK w F 3 A n (Qg r):=by
 obtain ⟨A',cap',e,h1,h2,h3⟩:=h;injection e with e1 e2 e3
 subst e1; subst e2; subst e3
 refine ⟨rfl,YV r,fun h0 => ?_⟩;obtain ⟨b,off,e,hF,hb,h4⟩:=h3 h0;refine ⟨b,off,e,hF,hb,fun j u hu => ?_⟩
 have hj:j<r.length*3:=by
  have:=(List.getElem?_eq_some_iff.1 hu).1
  rwa [YV] at this
 obtain ⟨m,i,hi,rfl⟩:∃ m i,i<3/\j=m*3+i:=⟨j / 3,j%3,Nat.mod_lt _ (by decide),by omega⟩
 have hm:m<r.length:=by omega
 have hx:r[m]? = some r[m]:=List.getElem?_eq_getElem hm;obtain ⟨q0,q1,q2,_⟩:=h4 m _ hx;rw [MH hx hi] at hu;have hc:i=0\/i=1\/i=2:=by omega
 rcases hc with rfl | rfl | rfl <;> simp [Vl.cells] at hu <;> subst hu
 ·exact q0
 ·rw [<- Nat.add_assoc]; exact q1
 ·rw [<- Nat.add_assoc]; exact q2
theorem Zm.Zia {F:Nat->Prop} {w:World} {A:Option Addr} {cap:Nat} {r:List Vl} (h:CsK w F 3 A r.length (Qg r)) (h1:r.length<=cap) (h2:cap<=9223372036854775807) (hf:Zh9 r):Zm F w (.slice A r.length cap) r:=by
 refine ⟨A,cap,rfl,h1,h2,fun h0 => ?_⟩;obtain ⟨b,off,e,hF,hb,hc⟩:=h.2 h0;refine ⟨b,off,e,hF,hb,fun j x hx => ?_⟩;have g:∀ i u,i<3->x.cells[i]? = some u->w.cell? ⟨b,off+(j*3+i),none⟩=some u:=fun i u hi hu=>hc _ _ (by rw [MH hx hi]; exact hu);refine ⟨g 0 _ (by decide) rfl,?_,?_,hf x (List.mem_of_getElem? hx)⟩
 ·rw [Nat.add_assoc]; exact g 1 _ (by decide) rfl
 ·rw [Nat.add_assoc]; exact g 2 _ (by decide) rfl
def Neu (w:World) (R:Value->World->Prop) (e:Ending) (w':World):Prop:=∃ v,e = .returned v/\R v w'/\Chg (fun _=>False) w w'
def new (w:World):Nat->Prop:=fun b=>w.heap.size<=b
theorem MJ:Zcz prog 39 39 55 3 32:=by
 obtain ⟨i,hi,hz,hs,hb⟩:=info_parts (P:=prog) (e:=55) (z := .agg #[.int .i64 0,.int .i64 0,.string ⟨#[]⟩]) (size:=3) (bytes:=32) (by kernel_rfl);exact ⟨underlying39,⟨_,underlying39⟩,⟨i,_,hi,hz,hs,hb,rfl⟩,by decide⟩
theorem Zm.G6 {w:World} {e:TypeId} {own:Option Nat} {A:Option Addr} {cap:Nat} {r:List Vl} {F:Nat->Prop} (h:QD w e 3 own A r.length cap (Qg r)) (hF:∀ g,own=some g->F g) (hf:Zh9 r):Zm F w (.slice A r.length cap) r :=
 Zm.Zia (h.cs.mono fun b hb _=>hF b hb) h.fits h.Wg hf
theorem MK {F:Nat->Prop} {w:World} {v:Value} {r:List Vl} (h:Zm F w v r) (hlen:r.length<=1000000) :
  Calls prog 84 #[v] w (Neu w fun u w'=>Zm (new w) w' u r):=by
 have HF:=Hd h.fit;have hk:=h;obtain ⟨A,cap,rfl,hn,hcap,hat⟩:=h;obtain ⟨_,hcs⟩:=hk.csK;clear hk hat;have HL:=Hd hlen;have HC:=Hd hcs;clear hlen hcs;have hz:=@Lib.run_eql_slice_nil prog;cases A with
 | none =>
  go_enter func84,ntmps84
  go_wp2_with fail
  go_ret
  have h0:r=[]:=by
   by_cases h0:0<r.length
   ·obtain ⟨b,off,e,_⟩:=HC.out.2 h0;cases e
   ·exact List.eq_nil_of_length_eq_zero (by omega)
  subst h0;exact ⟨_,rfl,Zm.Xz _ _,Chg.refl _ _⟩
 | some ad =>
  have H1:=Hd (show CsK (w.alloc (.cells #[] 55)) F 3 (some ad) r.length (Qg r) from HC.out.chg ((Chg.refl (fun _=>False) w).alloc _) fun _ _ _ h=>h)
  go_enter func84,ntmps84
  go_wp2_with (at_builtin; refine ZA rfl _ _ 39 39 rfl 55 3 32 MJ none _ 0 0 _ [] (Qg r) _ rfl rfl (QD.Xz _ _ _ _) (X4.slice H1.out) (MI r) r.length ?_ ?_ ?_ ?_)
  ·have:=HL.out; omega
  ·have:=HL.out; omega
  ·intro own' A' cap' w' hown hor ae;have HO:=Hd hown;clear hown
   go_wp2_with fail
   go_ret
   refine ⟨_,rfl,Zm.G6 HO.out (fun g hg => ?_) HF.out,(((Chg.refl (fun _=>False) w).alloc _).trans ae (fun _ _ hf=>by cases hf))⟩;rcases hor with h0 | h0
   ·rw [h0] at hg; simp at hg
   ·rw [h0] at hg; simp at hg; show w.heap.size<=g; omega
structure Itm where
 row:List Vl
 a:Nat
 b:Nat
def Ua (F:Nat->Prop) (w:World) (b o:Nat) (x:Itm):Prop :=
 (∃ rv,w.cell? ⟨b,o,none⟩=some rv/\Zm F w rv x.row)/\w.cell? ⟨b,o+1,none⟩=some (tc x.a x.b)/\x.a<=1125899906842624/\x.b<=1125899906842624/\x.row.length<=1000000
def Zp (F:Nat->Prop) (w:World) (v:Value) (l:List Itm):Prop :=
 ∃ A cap,v = .slice A l.length cap/\l.length<=cap/\cap<=9223372036854775807 /\
  (0<l.length->∃ b off,A=some ⟨b,off,none⟩/\F b/\b<w.heap.size/\∀ j x,l[j]? = some x->Ua F w b (off+j*2) x)
theorem Ua.chg {F T:Nat->Prop} {w w':World} {b o:Nat} {x:Itm} (h:Ua F w b o x) (hc:Chg T w w') (hF:F b) (hn:∀ b,F b->b<w.heap.size->¬ T b):Ua F w' b o x:=by
 obtain ⟨⟨rv,h1,h2⟩,h3,h4⟩:=h;have hb:=World.block_lt_of_cell? w _ h1;exact ⟨⟨rv,hc.cell h1 (hn b hF hb),h2.chg hc hn⟩,hc.cell h3 (hn b hF hb),h4⟩
theorem Zp.chg {F T:Nat->Prop} {w w':World} {v:Value} {l:List Itm} (h:Zp F w v l) (hc:Chg T w w') (hn:∀ b,F b->b<w.heap.size->¬ T b):Zp F w' v l:=by
 obtain ⟨A,cap,e,h1,h2,h3⟩:=h;refine ⟨A,cap,e,h1,h2,fun h0 => ?_⟩;obtain ⟨b,off,e2,hF,hb,h4⟩:=h3 h0;exact ⟨b,off,e2,hF,Nat.lt_of_lt_of_le hb hc.size,fun j x hx=>(h4 j x hx).chg hc hF hn⟩
theorem Zp.Zf {F:Nat->Prop} {w w':World} {v:Value} {l:List Itm} (h:Zp F w v l) (hc:Chg (fun _=>False) w w'):Zp F w' v l:=h.chg hc fun _ _ _ h=>h
theorem Zp.Xz (F:Nat->Prop) (w:World):Zp F w (.slice none 0 0) []:=⟨none,0,rfl,Nat.le_refl _,by decide,fun h=>absurd h (by simp)⟩
theorem Ua.mono {F G:Nat->Prop} {w:World} {b o:Nat} {x:Itm} (h:Ua F w b o x) (hn:∀ b,F b->b<w.heap.size->G b):Ua G w b o x:=by
 obtain ⟨⟨rv,h1,h2⟩,h3,h4⟩:=h;exact ⟨⟨rv,h1,h2.mono hn⟩,h3,h4⟩
theorem Zp.mono {F G:Nat->Prop} {w:World} {v:Value} {l:List Itm} (h:Zp F w v l) (hn:∀ b,F b->b<w.heap.size->G b):Zp G w v l:=by
 obtain ⟨A,cap,e,h1,h2,h3⟩:=h;refine ⟨A,cap,e,h1,h2,fun h0 => ?_⟩;obtain ⟨b,off,e2,hF,hb,h4⟩:=h3 h0;exact ⟨b,off,e2,hn b hF hb,hb,fun j x hx=>(h4 j x hx).mono hn⟩
theorem QX {w:World} {B:Nat} {x y:Value} {t:TypeId} (h:w.heap[B]? = some (.cells #[x,y] t (0,0))) :
  w.cell? ⟨B,0,none⟩=some x/\w.cell? ⟨B,1,none⟩=some y/\w.frozen? ⟨B,0,none⟩=false/\w.frozen? ⟨B,1,none⟩=false :=
 ⟨by rw [cell_of_row w B 0 _ t (0,0) h]; rfl,by rw [cell_of_row w B 1 _ t (0,0) h]; rfl,frozen_of_row w B 0 _ t h,frozen_of_row w B 1 _ t h⟩
theorem ZE (a:Addr) (k:FloatKind) (x y:Nat) (m:Mode) (w:World):(store a (.complex k x y) m).run prog w=stored prog w a (.complex k x y) m:=run_store prog w a _ m rfl
theorem WO {F:Nat->Prop} {w:World} {v:Value} {r:List Vl} {a b:Nat} (h:Zm F w v r) (hlen:r.length<=1000000) :
  Calls prog 54 #[v,tc a b] w (Neu w fun u w'=>∃ rv,u = .agg #[rv,tc a b]/\Zm (new w) w' rv r):=by
 have h1:=fun w1 (hc:Chg (fun _=>False) w w1)=>MK (h.Zf hc) hlen;have hr:=h;obtain ⟨A,cap,rfl,_⟩:=h;have HR:=Hd hr;clear hr;unfold tc;have hst:=ZE
 go_enter func54,ntmps54
 go_wp2_with fail
 refine (h1 _ ((Chg.refl _ w).alloc _)).mono ?_;rintro _ w1 ⟨u,rfl,hu,hc⟩;have hb:w1.heap[w.heap.size]? = some (.cells #[.slice none 0 0,.complex .f64 0 0] 59 (0,0)):=hc.heap (heap_alloc_new w _) (fun h=>h);have hu':=hu;obtain ⟨A',cap',rfl,_⟩:=hu;have HU:=Hd hu';clear hu';obtain ⟨q0,q1,q2,q3⟩:=QX hb
 go_wp2_with fail
 (try simp only [Exit.inBlock,Exit.then])
 refine bodyPost_ret (v := .agg #[.slice A' r.length cap',.complex .f64 (fl a) (fl b)]) ?_ rfl ?_
 ·simp only [results,show Tryz.f54.results = #[.cell 4 59] from rfl];go_simp
 ·have h2:Chg (fun k=>k=w.heap.size) w1 ((w1.setCell ⟨w.heap.size,0,none⟩ (.slice A' r.length cap')).setCell ⟨w.heap.size,1,none⟩ (.complex .f64 (fl a) (fl b))) :=
   Chg.Z5 (T:=fun k=>k=w.heap.size) (Chg.Z5 (T:=fun k=>k=w.heap.size) (Chg.refl _ w1) (D:=w.heap.size) rfl 0 _) (D:=w.heap.size) rfl 1 _
  refine ⟨_,rfl,⟨_,rfl,?_⟩,(((Chg.refl (fun _=>False) w).alloc _).trans hc fun _ _ h=>h).trans h2 fun i hi e=>by omega⟩;refine (HU.out.chg h2 fun b hb _ e => ?_).mono fun b hb _ => ?_
  ·have:w.heap.size+1<=b:=by simpa [new] using hb
   omega
  ·have:w.heap.size+1<=b:=by simpa [new] using hb
   show w.heap.size<=b;omega
end
section
open Go.RowKit
abbrev PI:=Value×Itm
def ZD (ps:List PI):List Value:=ps.flatMap fun p=>[p.1,tc p.2.a p.2.b]
def POk (F:Nat->Prop) (w:World) (p:PI):Prop:=Zm F w p.1 p.2.row/\p.2.a<=1125899906842624/\p.2.b<=1125899906842624/\p.2.row.length<=1000000
theorem POk.chg {F T:Nat->Prop} {w w':World} {p:PI} (h:POk F w p) (hc:Chg T w w') (hn:∀ b,F b->b<w.heap.size->¬ T b):POk F w' p:=⟨h.1.chg hc hn,h.2⟩
theorem POk.mono {F G:Nat->Prop} {w:World} {p:PI} (h:POk F w p) (hn:∀ b,F b->b<w.heap.size->G b):POk G w p:=⟨h.1.mono hn,h.2⟩
theorem XH (ps:List PI):(ZD ps).length=ps.length*2:=ZcA _ 2 (fun _=>rfl) ps
theorem Tj {ps:List PI} {j:Nat} {p:PI} (h:ps[j]? = some p):(ZD ps)[j*2]? = some p.1/\(ZD ps)[j*2+1]? = some (tc p.2.a p.2.b) :=
 ⟨by have:=TO (fun p:PI=>[p.1,tc p.2.a p.2.b]) 2 (fun _=>rfl) ps j 0 p h (by decide); rw [Nat.add_zero] at this; exact this,by have:=TO (fun p:PI=>[p.1,tc p.2.a p.2.b]) 2 (fun _=>rfl) ps j 1 p h (by decide); exact this⟩
theorem QR (ps:List PI) (p:PI):ZD (ps++[p])=ZD ps++[p.1,tc p.2.a p.2.b]:=by simp [ZD]
theorem Zp.Pg {F:Nat->Prop} {w:World} {A:Option Addr} {cap n:Nat} {ps:List PI} (h:CsK w F 2 A n (ZD ps)) (hn:n=ps.length) (h1:n<=cap) (h2:cap<=9223372036854775807) (hp:∀ p∈ps,POk F w p) :
  Zp F w (.slice A n cap) (ps.map (·.2)):=by
 subst hn;refine ⟨A,cap,by rw [List.length_map],by rw [List.length_map]; exact h1,h2,fun h0 => ?_⟩;rw [List.length_map] at h0;obtain ⟨b,off,e,hF,hb,hc⟩:=h.2 h0;refine ⟨b,off,e,hF,hb,fun j x hx => ?_⟩;rw [List.getElem?_map] at hx;obtain ⟨p,hp1,rfl⟩:=Option.map_eq_some_iff.1 hx;obtain ⟨g0,g1⟩:=Tj hp1;obtain ⟨k1,k2,k3,k4⟩:=hp p (List.mem_of_getElem? hp1);refine ⟨⟨p.1,hc _ _ g0,k1⟩,?_,k2,k3,k4⟩;rw [Nat.add_assoc];exact hc _ _ g1
theorem Hg {α β : Type} {R:Nat -> α -> β -> Prop}:∀ (l:List α),(∀ j x,l[j]? = some x->∃ y,R j x y)->∃ ys:List (β × α),ys.map (·.2)=l/\∀ j p,ys[j]? = some p->R j p.2 p.1
 | [],_=>⟨[],rfl,fun j p h=>by simp at h⟩
 | a::l,h=>by
  obtain ⟨y,hy⟩:=h 0 a rfl;obtain ⟨ys,h1,h2⟩:=Hg (R:=fun j=>R (j+1)) l fun j x hx=>h (j+1) x (by simpa using hx);refine ⟨(y,a)::ys,by simp [h1],fun j p hp => ?_⟩;cases j with
  | zero=>simp at hp; subst hp; exact hy
  | succ j=>exact h2 j p (by simpa using hp)
theorem Zp.ZcB {F:Nat->Prop} {w:World} {v:Value} {l:List Itm} (h:Zp F w v l) :
  ∃ A cap ps,v = .slice A l.length cap/\l.length<=cap/\cap<=9223372036854775807/\ps.map (·.2)=l/\CsK w F 2 A l.length (ZD ps)/\∀ p∈ps,POk F w p:=by
 obtain ⟨A,cap,e,h1,h2,h3⟩:=h;by_cases h0:0<l.length
 ·obtain ⟨b,off,rfl,hF,hb,h4⟩:=h3 h0
  obtain ⟨ps,hps,hR⟩:=Hg (R:=fun j (x:Itm) (rv:Value)=>w.cell? ⟨b,off+j*2,none⟩=some rv/\Zm F w rv x.row/\w.cell? ⟨b,off+j*2+1,none⟩=some (tc x.a x.b)/\x.a<=1125899906842624/\x.b<=1125899906842624/\x.row.length<=1000000) l
   fun j x hx=>by
    obtain ⟨⟨rv,q1,q2⟩,q3,q4⟩:=h4 j x hx;exact ⟨rv,q1,q2,q3,q4⟩
  have hl:l.length=ps.length:=by rw [<- hps,List.length_map]
  refine ⟨_,cap,ps,e,h1,h2,hps,⟨by rw [XH,hl],fun _=>⟨b,off,rfl,hF,hb,fun j u hu => ?_⟩⟩,fun p hp => ?_⟩
  ·have hj:j<ps.length*2:=by have:=(List.getElem?_eq_some_iff.1 hu).1; rwa [XH] at this
   obtain ⟨m,i,hi,rfl⟩:∃ m i,i<2/\j=m*2+i:=⟨j / 2,j%2,Nat.mod_lt _ (by decide),by omega⟩
   have hx:ps[m]? = some ps[m]:=List.getElem?_eq_getElem (by omega);obtain ⟨q1,_,q3,_⟩:=hR m _ hx;obtain ⟨g0,g1⟩:=Tj hx;have hc:i=0\/i=1:=by omega
   rcases hc with rfl | rfl
   ·rw [Nat.add_zero] at hu ⊢;rw [g0] at hu;cases hu;exact q1
   ·rw [g1] at hu;cases hu;rw [<- Nat.add_assoc];exact q3
  ·obtain ⟨j,hj⟩:=List.getElem?_of_mem hp;obtain ⟨_,q2,_,q4⟩:=hR j p hj;exact ⟨q2,q4⟩
 ·have hl:l=[]:=List.eq_nil_of_length_eq_zero (by omega);subst hl;exact ⟨A,cap,[],e,h1,h2,rfl,⟨rfl,fun h=>absurd h (by simp)⟩,fun p hp=>by cases hp⟩
theorem Tk {F:Nat->Prop} {w:World} {ps:List PI} (h:∀ p∈ps,POk F w p):∀ u∈ZD ps,u.oneCell'=true:=by
 intro u hu;simp only [ZD,List.mem_flatMap,List.mem_cons,List.not_mem_nil,or_false] at hu;obtain ⟨p,hp,rfl | rfl⟩:=hu
 ·obtain ⟨⟨A,cap,e,_⟩,_⟩:=h p hp;rw [e]; rfl
 ·rfl
theorem WQ:Zcz prog 45 45 59 2 40:=by
 obtain ⟨i,hi,hz,hs,hb⟩:=info_parts (P:=prog) (e:=59) (z := .agg #[.slice none 0 0,.complex .f64 0 0]) (size:=2) (bytes:=40) (by kernel_rfl);exact ⟨underlying45,⟨_,underlying45⟩,⟨i,_,hi,hz,hs,hb,rfl⟩,by decide⟩
def Itm.net (x:Itm):Int:=(x.a:Int)-x.b
def Kp (m:Int):List Itm->Int->Bool
 | [],_=>false
 | x::l,n=>if m<=n+x.net then true else Kp m l (n+x.net)
theorem DJ {F:Nat->Prop} {w:World} {v:Value} {l:List Itm} (h:Zp F w v l) (hlen:l.length<=4096) :
  Calls prog 167 #[v] w fun e w'=>e = .returned (.bool (Kp 64 l 0))/\Chg (fun _=>False) w w':=by
 obtain ⟨A,cap,rfl,hn,hcap,hat⟩:=h;have HA:=Hd hat;have HL:=Hd hlen;clear hat hlen
 go_enter func167,ntmps167
 go_wp2_with fail
 go_loopw [8,3] (fun i s wr=>∃ (I:Nat) (n:Int),I<=l.length/\i = .int .i64 I/\s = .int .i64 n/\n<64/\Hid (-((I:Int)*1125899906842624)<=n)/\Hid (Kp 64 l 0=Kp 64 (l.drop I) n)/\Chg (fun _=>False) w wr) (fun i _ _=>l.length-(intOf i).toNat)
 case atStart=>exact ⟨0,0,Nat.zero_le _,rfl,rfl,by decide,Hd (by decide),Hd (by simp),Chg.refl _ _⟩
 case round =>
  obtain ⟨I,n,hI,rfl,rfl,sK,HN,HC,hcw⟩:=hrel;by_cases hlt:I<l.length
  ·obtain ⟨b,off,rfl,_,hb,hx⟩:=HA.out (by omega);obtain ⟨x,ag⟩:∃ x,l[I]? = some x:=⟨_,List.getElem?_eq_getElem hlt⟩
   obtain ⟨⟨rv,p0,hrow⟩,p1,ha,hbb,_⟩:=hx I x ag;have q0:=hcw.cell p0 (fun h=>h);have q1:=hcw.cell p1 (fun h=>h)
   have hd1:l.drop I=x::l.drop (I+1):=by
    obtain ⟨h1,h2⟩:=List.getElem?_eq_some_iff.1 ag;rw [<- h2];exact List.drop_eq_getElem_cons h1
   obtain ⟨RA,aa,rfl,_⟩:=hrow;have hc1:=fun w=>QW ha hbb w;unfold tc at hc1 q1;have hnn:=HN.out;have hL:=HL.out;have hw:IntKind.i64.wrap (n+((x.a:Int)-x.b))=n+((x.a:Int)-x.b):=IntWalk.i64_in _ (by omega);have HD:=Hd (HC.out.trans (by rw [hd1,Kp]));have hst:=ZE;clear hd1 ag hx p0 p1 HC;unfold Itm.net at HD;obtain ⟨d,hd⟩:∃ d:Int,(x.a:Int)-x.b=d:=⟨_,rfl⟩
   rw [hd] at hc1 hw HD;have hdl : -1125899906842624<=d:=by omega
   have iL:=Hd (show -(((I+1:Nat):Int)*1125899906842624)<=n+d by omega);clear HN hnn hL ha hbb hd hdl;by_cases h0:64<=n+d
   ·go_wp2_with fail
    refine (hc1 _).mono ?_;rintro _ w1 ⟨rfl,hc⟩
    go_wp2_with fail
    go_ret
    exact ⟨by rw [HD.out,if_pos (by omega)]; rfl,(hcw.trans ((Chg.refl _ wr).alloc _) fun _ _ h=>h).trans hc fun _ _ h=>h⟩
   ·go_wp2_with fail
    refine (hc1 _).mono ?_;rintro _ w1 ⟨rfl,hc⟩
    go_wp2_with fail
    go_roundw
    case rel=>exact ⟨I+1,n+d,by omega,by go_num,rfl,by omega,iL,Hd (HD.out.trans (if_neg (by omega))),(hcw.trans ((Chg.refl _ wr).alloc _) fun _ _ h=>h).trans hc fun _ _ h=>h⟩
    case measure=>simp [intOf]; omega
  ·have hge:¬ ((I:Int)<(l.length:Int)):=by omega
   go_wp2_with fail
   go_ret
   refine ⟨?_,hcw⟩;rw [HC.out,show I=l.length by omega,List.drop_length];rfl
theorem DK {F:Nat->Prop} {w:World} {v:Value} {l:List Itm} (h:Zp F w v l) (hlen:l.length<=4096) :
  Calls prog 183 #[v] w fun e w'=>e = .returned (.bool (Kp 513 l 0))/\Chg (fun _=>False) w w':=by
 obtain ⟨A,cap,rfl,hn,hcap,hat⟩:=h;have HA:=Hd hat;have HL:=Hd hlen;clear hat hlen
 go_enter func183,ntmps183
 go_wp2_with fail
 go_loopw [8,3] (fun i s wr=>∃ (I:Nat) (n:Int),I<=l.length/\i = .int .i64 I/\s = .int .i64 n/\n<513/\Hid (-((I:Int)*1125899906842624)<=n)/\Hid (Kp 513 l 0=Kp 513 (l.drop I) n)/\Chg (fun _=>False) w wr) (fun i _ _=>l.length-(intOf i).toNat)
 case atStart=>exact ⟨0,0,Nat.zero_le _,rfl,rfl,by decide,Hd (by decide),Hd (by simp),Chg.refl _ _⟩
 case round =>
  obtain ⟨I,n,hI,rfl,rfl,sK,HN,HC,hcw⟩:=hrel;by_cases hlt:I<l.length
  ·obtain ⟨b,off,rfl,_,hb,hx⟩:=HA.out (by omega);obtain ⟨x,ag⟩:∃ x,l[I]? = some x:=⟨_,List.getElem?_eq_getElem hlt⟩
   obtain ⟨⟨rv,p0,hrow⟩,p1,ha,hbb,_⟩:=hx I x ag;have q0:=hcw.cell p0 (fun h=>h);have q1:=hcw.cell p1 (fun h=>h)
   have hd1:l.drop I=x::l.drop (I+1):=by
    obtain ⟨h1,h2⟩:=List.getElem?_eq_some_iff.1 ag;rw [<- h2];exact List.drop_eq_getElem_cons h1
   obtain ⟨RA,aa,rfl,_⟩:=hrow;have hc1:=fun w=>QW ha hbb w;unfold tc at hc1 q1;have hnn:=HN.out;have hL:=HL.out;have hw:IntKind.i64.wrap (n+((x.a:Int)-x.b))=n+((x.a:Int)-x.b):=IntWalk.i64_in _ (by omega);have HD:=Hd (HC.out.trans (by rw [hd1,Kp]));have hst:=ZE;clear hd1 ag hx p0 p1 HC;unfold Itm.net at HD;obtain ⟨d,hd⟩:∃ d:Int,(x.a:Int)-x.b=d:=⟨_,rfl⟩
   rw [hd] at hc1 hw HD;have hdl : -1125899906842624<=d:=by omega
   have iL:=Hd (show -(((I+1:Nat):Int)*1125899906842624)<=n+d by omega);clear HN hnn hL ha hbb hd hdl;by_cases h0:513<=n+d
   ·have h0':512<n+d:=by omega
    go_wp2_with fail
    refine (hc1 _).mono ?_;rintro _ w1 ⟨rfl,hc⟩
    go_wp2_with fail
    go_ret
    exact ⟨by rw [HD.out,if_pos (by omega)]; rfl,(hcw.trans ((Chg.refl _ wr).alloc _) fun _ _ h=>h).trans hc fun _ _ h=>h⟩
   ·have h0':n+d<=512:=by omega
    go_wp2_with fail
    refine (hc1 _).mono ?_;rintro _ w1 ⟨rfl,hc⟩
    go_wp2_with fail
    go_roundw
    case rel=>exact ⟨I+1,n+d,by omega,by go_num,rfl,by omega,iL,Hd (HD.out.trans (if_neg (by omega))),(hcw.trans ((Chg.refl _ wr).alloc _) fun _ _ h=>h).trans hc fun _ _ h=>h⟩
    case measure=>simp [intOf]; omega
  ·have hge:¬ ((I:Int)<(l.length:Int)):=by omega
   go_wp2_with fail
   go_ret
   refine ⟨?_,hcw⟩;rw [HC.out,show I=l.length by omega,List.drop_length];rfl
theorem X5 (w:World) (x y:Value) (t:TypeId):CsK (w.alloc (.cells #[x,y] t)) (fun b=>b=w.heap.size) 2 (some ⟨w.heap.size,0,none⟩) 1 [x,y]:=by
 refine ⟨rfl,fun _=>⟨w.heap.size,0,rfl,rfl,by simp,fun j u hu => ?_⟩⟩;have h:=heap_alloc_new w (.cells #[x,y] t);rw [Nat.zero_add,cell_of_row _ _ j _ t (0,0) h];simpa using hu
theorem DL {F:Nat->Prop} {w:World} {v:Value} {l:List Itm} (h:Zp F w v l) (hlen:l.length<=4096) :
  Calls prog 40 #[v] w (Neu w fun u w'=>Zp (new w) w' u l):=by
 obtain ⟨A,cap,rfl,hn,hcap,hat⟩:=h;have HA:=Hd hat;have HL:=Hd hlen;clear hat hlen
 go_enter func40,ntmps40
 go_wp2_with fail
 go_loopw [8,3] (fun i s wr=>∃ (I:Nat) (own:Option Nat) (B:Option Addr) (c:Nat) (ps:List PI),I<=l.length/\i = .int .i64 I/\s = .slice B I c/\Hid (ps.map (·.2)=l.take I)/\Hid (QD wr 59 2 own B I c (ZD ps))/\Hid (∀ g,own=some g->w.heap.size<=g)/\Hid (∀ p∈ps,POk (fun b=>w.heap.size<=b/\own≠some b) wr p)/\Chg (fun _=>False) w wr) (fun i _ _=>l.length-(intOf i).toNat)
 case atStart=>exact ⟨0,none,none,0,[],Nat.zero_le _,rfl,rfl,Hd (by simp),Hd (QD.Xz _ _ _ _),Hd (fun g h=>by cases h),Hd (fun p h=>by cases h),Chg.refl _ _⟩
 case round =>
  obtain ⟨I,own,B,c,ps,hI,rfl,rfl,HM,HO,HN,HP,hcw⟩:=hrel;by_cases hlt:I<l.length
  ·obtain ⟨b,off,rfl,_,hb,hx⟩:=HA.out (by omega);obtain ⟨x,ag⟩:∃ x,l[I]? = some x:=⟨_,List.getElem?_eq_getElem hlt⟩
   obtain ⟨⟨rv,p0,hrow⟩,p1,ha,hbb,hrl⟩:=hx I x ag;have q0:=hcw.cell p0 (fun h=>h);have q1:=hcw.cell p1 (fun h=>h);have hc1:=fun w1 (hc:Chg (fun _=>False) w w1)=>WO (a:=x.a) (b:=x.b) (hrow.Zf hc) hrl;obtain ⟨RA,aa,rfl,_⟩:=hrow;have HX:=Hd ag;have HB:=Hd (And.intro ha (And.intro hbb hrl));unfold tc at hc1 q1;have hst:=ZE;clear ag hx p0 p1 ha hbb hrl
   go_wp2_with fail
   refine (hc1 _ (hcw.trans ((Chg.refl _ wr).alloc _) fun _ _ h=>h)).mono ?_;rintro _ w1 ⟨u,rfl,⟨rv,rfl,aY⟩,hc⟩;have bK:=aY;obtain ⟨bL,aj,rfl,_⟩:=aY;have HR:=Hd bK;clear bK hc1;have hcw2:=(hcw.trans ((Chg.refl (fun _=>False) wr).alloc _) fun _ _ h=>h).trans hc fun _ _ h=>h;have hcw3:=((Chg.refl (fun _=>False) wr).alloc _).trans hc fun _ _ h=>h;have H1:=Hd (X5 w1 (.slice bL x.row.length aj) (.complex .f64 (fl x.a) (fl x.b)) 59);have bN:=Hd (HO.out.chg (hcw3.alloc (.cells #[.slice bL x.row.length aj,.complex .f64 (fl x.a) (fl x.b)] 59)) fun _ _ h=>h)
   go_wp2_with (at_builtin; refine ZA rfl _ _ 45 45 rfl 59 2 40 WQ own _ I c 1 (ZD ps) [.slice bL x.row.length aj,.complex .f64 (fl x.a) (fl x.b)] _ rfl rfl bN.out (X4.slice H1.out) (by simp [Value.oneCell']) (I+1) rfl ?_ ?_ ?_)
   ·have:=HL.out; omega
   ·have:=HL.out; omega
   ·intro own' B' c' w2 hown hor ae;have dA:=Hd hown;clear hown
    go_wp2_with fail
    go_roundw
    case rel =>
     have aM:Chg (fun _=>False) w w2:=(hcw2.alloc _).trans ae fun i hi hg=>by have:=HN.out i hg; omega
     have bU:Chg (fun b=>own=some b) w1 w2:=((Chg.refl _ w1).alloc _).trans ae fun i hi hg=>hg;refine ⟨I+1,own',B',c',ps++[(.slice bL x.row.length aj,x)],by omega,by go_num,rfl,Hd ?_,Hd (by rw [QR]; exact dA.out),Hd fun g hg => ?_,Hd fun p hp => ?_,aM⟩
     ·rw [List.map_append,HM.out,List.take_add_one,HX.out]; rfl
     ·rcases hor with h0 | h0
      ·exact HN.out g (h0▸hg)
      ·rw [h0] at hg;have:=hcw2.size;simp at hg;omega
     ·have hlt3:∀ b,b<w1.heap.size->own≠some b->own'≠some b:=fun b hb hne=>by
       rcases hor with h0 | h0
       ·rw [h0]; exact hne
       ·rw [h0]; simp; omega
      have hsz:=hcw.size;have iP:=hcw3.size;rcases List.mem_append.1 hp with hp | hp
      ·exact (((HP.out p hp).mono (G:=fun b=>(w.heap.size<=b/\own≠some b)/\own'≠some b) fun b hb hlt=>⟨hb,hlt3 b (by omega) hb.2⟩).chg ((hcw3.mono (T':=fun b=>own=some b) fun _ _ h=>h.elim).trans bU fun _ _ h=>h) fun b hb _ he=>hb.1.2 he).mono fun b hb _=>⟨hb.1.1,hb.2⟩
      ·rw [List.mem_singleton.1 hp];refine ⟨?_,HB.out⟩;refine ((HR.out.mono (G:=fun b=>(w.heap.size<=b/\own≠some b)/\own'≠some b) fun b hb hlt => ?_).chg bU fun b hb _ he=>hb.1.2 he).mono fun b hb _=>⟨hb.1.1,hb.2⟩
       have hb':wr.heap.size+1<=b:=by simpa [new] using hb
       have hne:own≠some b:=fun he=>by have:=HO.out.lt he; omega
       exact ⟨⟨by omega,hne⟩,hlt3 b hlt hne⟩
    case measure=>simp [intOf]; omega
  ·have hge:¬ ((I:Int)<(l.length:Int)):=by omega
   go_wp2_with fail
   go_ret
   have e:I=l.length:=by omega
   have hm:=HM.out;rw [e,List.take_length] at hm;exact ⟨_,rfl,hm▸Zp.Pg (HO.out.cs.mono fun g hg _=>HN.out g hg) (by rw [e,<- hm,List.length_map]) HO.out.fits HO.out.Wg fun p hp=>(HP.out p hp).mono fun b hb _=>hb.1,hcw⟩
end
section
def Jj:Nat->Nat->List UInt8
 | 0,_=>[]
 | k+1,n=>UInt8.ofNat (n%256)::Jj k (n / 256)
def num:List UInt8->Nat
 | []=>0
 | b::r=>b.toNat+256*num r
theorem ZJ:∀ k n,(Jj k n).length=k
 | 0,_=>rfl
 | k+1,n=>by rw [Jj,List.length_cons,ZJ k]
theorem DM (n:Nat):(UInt8.ofNat (n%256)).toNat=n%256:=by
 rw [UInt8.toNat_ofNat'];exact Nat.mod_mod _ _
theorem Ub:∀ k n,num (Jj k n)=n%256^k
 | 0,n=>by rw [Jj,num,Nat.pow_zero,Nat.mod_one]
 | k+1,n=>by
  rw [Jj,num,Ub k,DM,Nat.pow_succ,Nat.mul_comm (256^k) 256,Nat.mod_mul]
end
section
end
end Go.Proofs.YtheflbaejhlboaaGreatDoor
