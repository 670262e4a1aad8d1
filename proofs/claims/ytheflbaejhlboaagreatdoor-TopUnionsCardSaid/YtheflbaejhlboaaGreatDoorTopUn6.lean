/- A part of the proof of a law of package confluencetop: lemmas, no condition of ours. -/
import Derived.Test.YtheflbaejhlboaaGreatDoorTopUn5
set_option linter.unusedVariables false
set_option linter.unusedSectionVars false
set_option linter.unusedSimpArgs false
namespace Go.Proofs.YtheflbaejhlboaaGreatDoor
def le (p q:PI):Prop:=rle p.2.row q.2.row
def RVs (l:List PI):Prop:=∀ p∈l,RV p.2.row
theorem le_of_lt {p q:PI} (h:J3 p q<0):le p q:=by
 unfold le rle
 exact Int.le_of_lt h
theorem VK {p q:PI} (hp:RV p.2.row) (hq:RV q.2.row) (h:¬ J3 p q<0):le q p:=by
 rcases Uz hq hp with h1 | h1
 ·exact h1
 ·have:J3 p q=0:=by
   unfold rle at h1
   unfold J3 at h ⊢
   omega
  have e:=(QI hp hq).1 this
  unfold le
  rw [e]
  exact PV hq
theorem le_trans' {p q r:PI} (hp:RV p.2.row) (hq:RV q.2.row) (hr:RV r.2.row) (h:le p q) (k:le q r):le p r:=UB hp hq hr h k
theorem Ba {A B:List PI} {u v:PI} (hA:(A++[u]).Pairwise le) (hB:(v::B).Pairwise le) (huv:le u v) (rA:RVs (A++[u])) (rB:RVs (v::B)):∀ x∈A++[u],∀ y∈v::B,le x y:=by
 intro x hx y hy
 have ru:=rA u (by simp)
 have rv:=rB v (by simp)
 have h1:le x u:=by
  rcases List.mem_append.1 hx with h | h
  ·exact (List.pairwise_append.1 hA).2.2 x h u (by simp)
  ·rw [List.mem_singleton.1 h]; exact PV ru
 have h2:le v y:=by
  rcases List.mem_cons.1 hy with rfl | h
  ·exact PV rv
  ·exact (List.pairwise_cons.1 hB).1 y h
 exact le_trans' (rA x hx) ru (rB y hy) h1 (le_trans' ru rv (rB y hy) huv h2)
theorem T5 {X Y:List PI} (hX:X.Pairwise le) (hY:Y.Pairwise le) (rX:RVs X) (rY:RVs Y) (h:∀ u v,X.getLast? = some u→Y.head? = some v→le u v):∀ x∈X,∀ y∈Y,le x y:=by
 intro x hx y hy
 obtain ⟨v,B,rfl⟩:∃ v B,Y=v::B:=by
  cases Y with
  | nil=>cases hy
  | cons v B=>exact ⟨v,B,rfl⟩
 obtain ⟨A,u,rfl⟩:∃ A u,X=A++[u]:=⟨X.dropLast,X.getLast (by intro h; subst h; cases hx),(List.dropLast_concat_getLast _).symm⟩
 exact Ba hX hY (h u v (by simp) rfl) rX rY x hx y hy
theorem Ziu (P L R Q:List PI) {i m:Nat} (hm:m=P.length+L.length) (h1:m≤i) (h2:i<m+R.length):(P++(L++(R++Q)))[i]? = R[i-m]? := by
 rw [List.getElem?_append_right (by omega),List.getElem?_append_right (by omega),List.getElem?_append_left (by omega)]
 congr 1
 omega
theorem Ziv (P L Q:List PI) {i a:Nat} (ha:a=P.length) (h1:a≤i) (h2:i<a+L.length):(P++(L++Q))[i]? = L[i-a]? := by
 rw [List.getElem?_append_right (by omega),List.getElem?_append_left (by omega)]
 congr 1
 omega
theorem RVs.sub {l k:List PI} (h:RVs l) (hs:∀ x∈k,x∈l):RVs k:=fun x hx=>h x (hs x hx)
theorem ZiO (P R Q:List PI) (x:PI) {a m b:Nat} (ha:a=P.length) (hm:m=a+1) (hb:b=m+R.length) (hr:RVs (x::R)) (hR:R.Pairwise le) :
  ∃ S,upN (bs1 (P++(x::(R++Q))) x (b-m) m b-1-a) a (P++(x::(R++Q)))=P++(S++Q)∧S.Perm (x::R)∧S.Pairwise le:=by
 have hat:∀ i,m≤i→i<b→(P++(x::(R++Q)))[i]? = R[i-m]? := fun i h1 h2=>by
  have:=Ziu P [x] R Q (i:=i) (m:=m) (by simp; omega) h1 (by omega)
  simpa using this
 rw [Co _ _ _ _ _ (by simp; omega)]
 obtain ⟨k1,k2,k3,k4⟩:=Tv (fun h=>match (P++(x::(R++Q)))[h]? with | some y=>decide (J3 y x<0) | none=>false) m b (b-m) m b (Nat.le_refl _) (by omega) (Nat.le_refl _) (Nat.le_refl _) (fun h=>absurd h (by omega)) (fun h=>absurd h (by omega))
 generalize hr0:bs _ (b-m) m b=r at k1 k2 k3 k4 ⊢
 obtain ⟨R1,R2,hR12,hl⟩:∃ R1 R2,R=R1++R2∧R1.length=r-m:=⟨R.take (r-m),R.drop (r-m),(List.take_append_drop _ R).symm,by rw [List.length_take]; omega⟩
 have hu:=NW R1 P (R2++Q) x ha
 have e1:P++(x::(R++Q))=P++x::(R1++(R2++Q)):=by rw [hR12]; simp
 have rx:RV x.2.row:=hr x (by simp)
 refine ⟨R1++x::R2,?_,?_,?_⟩
 ·rw [e1,show r-1-a=R1.length by omega,hu]
  simp
 ·rw [hR12]
  exact List.perm_middle
 ·have h12:=hR12▸hR
  obtain ⟨q1,q2,q3⟩:=List.pairwise_append.1 h12
  have ra:RVs R1:=hr.sub fun y hy=>by rw [hR12]; simp [hy]
  have rb:RVs R2:=hr.sub fun y hy=>by rw [hR12]; simp [hy]
  have c1:∀ y∈R1,le y x:=by
   intro y hy
   refine T5 q1 (Y:=[x]) (by simp) ra (fun p hp=>by rw [List.mem_singleton.1 hp]; exact rx) (fun u v h1 h2 => ?_) y hy x (by simp)
   have hpos:0<R1.length:=List.length_pos_of_mem hy
   have h3:=k3 (by omega)
   simp only [List.head?_cons,Option.some.injEq] at h2
   subst h2
   rw [hat (r-1) (by omega) (by omega),show r-1-m=R1.length-1 by omega,hR12,List.getElem?_append_left (by omega),← List.getLast?_eq_getElem?,h1] at h3
   simp only [decide_eq_true_eq] at h3
   exact le_of_lt h3
  have c2:∀ y∈R2,le x y:=by
   intro y hy
   refine T5 (X:=[x]) (by simp) q2 (fun p hp=>by rw [List.mem_singleton.1 hp]; exact rx) rb (fun u v h1 h2 => ?_) x (by simp) y hy
   have hpos:0<R2.length:=List.length_pos_of_mem hy
   have hlen:R.length=R1.length+R2.length:=by rw [hR12,List.length_append]
   have h4:=k4 (by omega)
   simp only [List.getLast?_singleton,Option.some.injEq] at h1
   subst h1
   rw [hat r k1 (by omega),hR12,List.getElem?_append_right (by omega),show r-m-R1.length=0 by omega,← List.head?_eq_getElem?,h2] at h4
   simp only [decide_eq_false_iff_not] at h4
   exact VK (rb v (by cases R2 with | nil=>cases h2 | cons z zs=>simp at h2; subst h2; simp)) rx h4
  rw [List.pairwise_append]
  refine ⟨q1,List.pairwise_cons.2 ⟨c2,q2⟩,fun y hy z hz => ?_⟩
  rcases List.mem_cons.1 hz with rfl | hz
  ·exact c1 y hy
  ·exact q3 y hy z hz
theorem ZiP (P L Q:List PI) (x:PI) {a m:Nat} (ha:a=P.length) (hm:m=a+L.length) (hr:RVs (x::L)) (hL:L.Pairwise le) :
  ∃ S,XV (m-bs2 (P++(L++x::Q)) x (m-a) a m) m (P++(L++x::Q))=P++(S++Q)∧S.Perm (L++[x])∧S.Pairwise le:=by
 have hat:∀ i,a≤i→i<m→(P++(L++x::Q))[i]? = L[i-a]? := fun i h1 h2=>Ziv P L (x::Q) ha h1 (by omega)
 rw [Cp _ _ _ _ _ (by simp; omega)]
 obtain ⟨k1,k2,k3,k4⟩:=Tv (fun h=>match (P++(L++x::Q))[h]? with | some y => !decide (J3 x y<0) | none=>false) a m (m-a) a m (Nat.le_refl _) (by omega) (Nat.le_refl _) (Nat.le_refl _) (fun h=>absurd h (by omega)) (fun h=>absurd h (by omega))
 generalize hr0:bs _ (m-a) a m=r at k1 k2 k3 k4 ⊢
 obtain ⟨L1,L2,hL12,hl⟩:∃ L1 L2,L=L1++L2∧L1.length=r-a:=⟨L.take (r-a),L.drop (r-a),(List.take_append_drop _ L).symm,by rw [List.length_take]; omega⟩
 have hlen:L.length=L1.length+L2.length:=by rw [hL12,List.length_append]
 have hu:=RN (m-r) (P++L1) L2 Q x (k:=m) (by omega) (by simp; omega)
 have e1:P++(L++x::Q)=P++L1++(L2++x::Q):=by rw [hL12]; simp
 have rx:RV x.2.row:=hr x (by simp)
 refine ⟨L1++x::L2,?_,?_,?_⟩
 ·rw [e1,hu]
  simp
 ·rw [hL12]
  exact List.perm_middle.trans (List.perm_append_singleton x (L1++L2)).symm
 ·have h12:=hL12▸hL
  obtain ⟨q1,q2,q3⟩:=List.pairwise_append.1 h12
  have ra:RVs L1:=hr.sub fun y hy=>by rw [hL12]; simp [hy]
  have rb:RVs L2:=hr.sub fun y hy=>by rw [hL12]; simp [hy]
  have c1:∀ y∈L1,le y x:=by
   intro y hy
   refine T5 q1 (Y:=[x]) (by simp) ra (fun p hp=>by rw [List.mem_singleton.1 hp]; exact rx) (fun u v h1 h2 => ?_) y hy x (by simp)
   have hpos:0<L1.length:=List.length_pos_of_mem hy
   have h3:=k3 (by omega)
   simp only [List.head?_cons,Option.some.injEq] at h2
   subst h2
   rw [hat (r-1) (by omega) (by omega),show r-1-a=L1.length-1 by omega,hL12,List.getElem?_append_left (by omega),← List.getLast?_eq_getElem?,h1] at h3
   simp only [Bool.not_eq_true',decide_eq_false_iff_not] at h3
   exact VK rx (ra u (List.mem_of_getLast? h1)) h3
  have c2:∀ y∈L2,le x y:=by
   intro y hy
   refine T5 (X:=[x]) (by simp) q2 (fun p hp=>by rw [List.mem_singleton.1 hp]; exact rx) rb (fun u v h1 h2 => ?_) x (by simp) y hy
   have hpos:0<L2.length:=List.length_pos_of_mem hy
   have h4:=k4 (by omega)
   simp only [List.getLast?_singleton,Option.some.injEq] at h1
   subst h1
   rw [hat r k1 (by omega),hL12,List.getElem?_append_right (by omega),show r-a-L1.length=0 by omega,← List.head?_eq_getElem?,h2] at h4
   simp only [Bool.not_eq_false',decide_eq_true_eq] at h4
   exact le_of_lt h4
  rw [List.pairwise_append]
  refine ⟨q1,List.pairwise_cons.2 ⟨c2,q2⟩,fun y hy z hz => ?_⟩
  rcases List.mem_cons.1 hz with rfl | hz
  ·exact c1 y hy
  ·exact q3 y hy z hz
end Go.Proofs.YtheflbaejhlboaaGreatDoor
namespace Go.Proofs.YtheflbaejhlboaaGreatDoor
theorem Zcn (P L R Q:List PI) {a m b lo hi n:Nat} (ha:a=P.length) (hm:m=a+L.length) (hb:b=m+R.length) (hlh:lo≤hi) (hlo:a≤lo) (him:hi≤m) (h1:n-1-lo<b) (h2:m≤n-hi) (hn:hi<n) :
  lo≤bs3 (P++(L++(R++Q))) (n-1) (hi-lo) lo hi∧bs3 (P++(L++(R++Q))) (n-1) (hi-lo) lo hi≤hi ∧
   (lo<bs3 (P++(L++(R++Q))) (n-1) (hi-lo) lo hi→∀ u v,L[bs3 (P++(L++(R++Q))) (n-1) (hi-lo) lo hi-1-a]? = some u→R[n-bs3 (P++(L++(R++Q))) (n-1) (hi-lo) lo hi-m]? = some v→¬ J3 v u<0) ∧
   (bs3 (P++(L++(R++Q))) (n-1) (hi-lo) lo hi<hi→∀ u v,R[n-1-bs3 (P++(L++(R++Q))) (n-1) (hi-lo) lo hi-m]? = some u→L[bs3 (P++(L++(R++Q))) (n-1) (hi-lo) lo hi-a]? = some v→J3 u v<0):=by
 have hL:∀ i,a≤i→i<m→(P++(L++(R++Q)))[i]? = L[i-a]? := fun i k1 k2=>Ziv P L (R++Q) ha k1 (by omega)
 have hR:∀ i,m≤i→i<b→(P++(L++(R++Q)))[i]? = R[i-m]? := fun i k1 k2=>Ziu P L R Q (by omega) k1 (by omega)
 rw [Cq _ _ _ _ _ (by simp; omega) (by simp; omega)]
 obtain ⟨k1,k2,k3,k4⟩:=Tv (fun h=>match (P++(L++(R++Q)))[n-1-h]?,(P++(L++(R++Q)))[h]? with | some x,some y => !decide (J3 x y<0) | _,_=>false) lo hi (hi-lo) lo hi (Nat.le_refl _) hlh (Nat.le_refl _) (Nat.le_refl _) (fun h=>absurd h (by omega)) (fun h=>absurd h (by omega))
 generalize hr0:bs _ (hi-lo) lo hi=st at k1 k2 k3 k4 ⊢
 refine ⟨k1,k2,fun h u v hu hv => ?_,fun h u v hu hv => ?_⟩
 ·have h3:=k3 h
  rw [hL (st-1) (by omega) (by omega),hR (n-1-(st-1)) (by omega) (by omega),hu,show n-1-(st-1)-m=n-st-m by omega,hv] at h3
  simpa using h3
 ·have h4:=k4 h
  rw [hL st (by omega) (by omega),hR (n-1-st) (by omega) (by omega),hu,hv] at h4
  simpa using h4
theorem Wp:∀ (f:Nat) {a m b:Nat} (P L R Q:List PI),a=P.length→m=a+L.length→b=m+R.length→b-a≤f→0<L.length→0<R.length→RVs (L++R)→L.Pairwise le→R.Pairwise le →
  ∃ S,Vh f a m b (P++(L++(R++Q)))=P++(S++Q)∧S.Perm (L++R)∧S.Pairwise le
 | 0,a,m,b,P,L,R,Q,ha,hm,hb,hf,hl,hr,_,_,_=>by omega
 | f+1,a,m,b,P,L,R,Q,ha,hm,hb,hf,hl0,hr0,hrv,hL,hR=>by
  have rL:RVs L:=hrv.sub fun x hx=>by simp [hx]
  have rR:RVs R:=hrv.sub fun x hx=>by simp [hx]
  rw [Vh]
  by_cases e1:a+1=m
  ·rw [if_pos e1]
   obtain ⟨x,rfl⟩:∃ x,L=[x]:=List.length_eq_one_iff.1 (by omega)
   have hx:(P++([x]++(R++Q)))[a]? = some x:=Ke P x _ ha
   rw [hx]
   obtain ⟨S,h1,h2,h3⟩:=ZiO P R Q x ha e1.symm hb (by simpa using hrv) hR
   exact ⟨S,by simpa using h1,by simpa using h2,h3⟩
  rw [if_neg e1]
  by_cases e2:m+1=b
  ·rw [if_pos e2]
   obtain ⟨x,rfl⟩:∃ x,R=[x]:=List.length_eq_one_iff.1 (by omega)
   have e:P++(L++([x]++Q))=(P++L)++x::Q:=by simp
   have hx:(P++(L++([x]++Q)))[m]? = some x:=by rw [e]; exact Ke (P++L) x Q (by simp; omega)
   rw [hx]
   obtain ⟨S,h1,h2,h3⟩:=ZiP P L Q x ha hm (hrv.sub fun y hy=>by simp at hy ⊢; exact hy.symm) hL
   exact ⟨S,by simpa using h1,h2,h3⟩
  rw [if_neg e2]
  simp only
  obtain ⟨mid,hmid⟩:∃ x,(a+b) / 2=x:=⟨_,rfl⟩
  rw [hmid]
  obtain ⟨n,hn⟩:∃ x,mid+m=x:=⟨_,rfl⟩
  rw [hn]
  obtain ⟨lo,hlo⟩:∃ x,(if mid<m then n-b else a)=x:=⟨_,rfl⟩
  obtain ⟨hi,hhi⟩:∃ x,(if mid<m then mid else m)=x:=⟨_,rfl⟩
  rw [hlo,hhi]
  have hcase:(mid<m∧lo=n-b∧hi=mid)∨(m≤mid∧lo=a∧hi=m):=by
   by_cases h:mid<m
   ·rw [if_pos h] at hlo hhi
    exact .inl ⟨h,hlo.symm,hhi.symm⟩
   ·rw [if_neg h] at hlo hhi
    exact .inr ⟨by omega,hlo.symm,hhi.symm⟩
  clear hlo hhi
  have hs:=Zcn P L R Q ha hm hb (lo:=lo) (hi:=hi) (n:=n) (by omega) (by omega) (by omega) (by omega) (by omega) (by omega)
  obtain ⟨st,hst⟩:∃ x,bs3 (P++(L++(R++Q))) (n-1) (hi-lo) lo hi=x:=⟨_,rfl⟩
  rw [hst] at hs ⊢
  clear hst
  obtain ⟨s1,s2,s3,s4⟩:=hs
  obtain ⟨en,hen⟩:∃ x,n-st=x:=⟨_,rfl⟩
  rw [hen]
  rw [hen] at s3
  have t1:a≤st:=by omega
  have t2:st≤m:=by omega
  have t3:m≤en:=by omega
  have t4:en≤b:=by omega
  have t5:st+en=mid+m:=by omega
  obtain ⟨L1,L2,hL12,hl1⟩:∃ L1 L2,L=L1++L2∧L1.length=st-a:=⟨L.take (st-a),L.drop (st-a),(List.take_append_drop _ L).symm,by rw [List.length_take]; omega⟩
  obtain ⟨R1,R2,hR12,hr1⟩:∃ R1 R2,R=R1++R2∧R1.length=en-m:=⟨R.take (en-m),R.drop (en-m),(List.take_append_drop _ R).symm,by rw [List.length_take]; omega⟩
  have hl2:L2.length=m-st:=by rw [hL12,List.length_append] at hm; omega
  have hr2:R2.length=b-en:=by rw [hR12,List.length_append] at hb; omega
  have pL:=List.pairwise_append.1 (hL12▸hL)
  have pR:=List.pairwise_append.1 (hR12▸hR)
  have rL1:RVs L1:=rL.sub fun x hx=>by rw [hL12]; simp [hx]
  have rL2:RVs L2:=rL.sub fun x hx=>by rw [hL12]; simp [hx]
  have rR1:RVs R1:=rR.sub fun x hx=>by rw [hR12]; simp [hx]
  have rR2:RVs R2:=rR.sub fun x hx=>by rw [hR12]; simp [hx]
  have c1:∀ x∈L1,∀ y∈R2,le x y:=T5 pL.1 pR.2.1 rL1 rR2 fun u v hu hv=>by
   have hu1:0<L1.length:=by cases L1 with | nil=>cases hu | cons=>simp
   have hv1:0<R2.length:=by cases R2 with | nil=>cases hv | cons=>simp
   have hru:=rL1 u (List.mem_of_getLast? hu)
   have hrv':=rR2 v (by cases R2 with | nil=>cases hv | cons z zs=>simp at hv; subst hv; simp)
   refine VK hrv' hru (s3 (by omega) u v ?_ ?_)
   ·rw [hL12,List.getElem?_append_left (by omega),show st-1-a=L1.length-1 by omega,← List.getLast?_eq_getElem?]
    exact hu
   ·rw [hR12,List.getElem?_append_right (by omega),show en-m-R1.length=0 by omega,← List.head?_eq_getElem?]
    exact hv
  have c2:∀ x∈R1,∀ y∈L2,le x y:=T5 pR.1 pL.2.1 rR1 rL2 fun u v hu hv=>by
   have hu1:0<R1.length:=by cases R1 with | nil=>cases hu | cons=>simp
   have hv1:0<L2.length:=by cases L2 with | nil=>cases hv | cons=>simp
   refine le_of_lt (s4 (by omega) u v ?_ ?_)
   ·rw [hR12,List.getElem?_append_left (by omega),show n-1-st-m=R1.length-1 by omega,← List.getLast?_eq_getElem?]
    exact hu
   ·rw [hL12,List.getElem?_append_right (by omega),show st-a-L1.length=0 by omega,← List.head?_eq_getElem?]
    exact hv
  have h1:(if st<m∧m<en then Kr (m-st+(en-m)) (P++(L++(R++Q))) m (m-st) (en-m) else P++(L++(R++Q)))=P++(L1++(R1++(L2++(R2++Q)))):=by
   by_cases h:st<m∧m<en
   ·rw [if_pos h]
    have:=Yv (m-st+(en-m)) (P++L1) L2 R1 (R2++Q) (m:=m) hl2 hr1 (by rw [List.length_append]; omega) (by omega) (by omega) (Nat.le_refl _)
    rw [hL12,hR12]
    simpa using this
   ·rw [if_neg h]
    by_cases h0:st<m
    ·have:R1=[]:=List.eq_nil_of_length_eq_zero (by omega)
     subst this
     rw [hL12,hR12]
     simp
    ·have:L2=[]:=List.eq_nil_of_length_eq_zero (by omega)
     subst this
     rw [hL12,hR12]
     simp
  rw [h1]
  obtain ⟨S1,h2,q2,q3⟩:∃ S1,(if a<st∧st<mid then Vh f a st mid (P++(L1++(R1++(L2++(R2++Q))))) else P++(L1++(R1++(L2++(R2++Q)))))=P++(S1++(L2++(R2++Q)))∧S1.Perm (L1++R1)∧S1.Pairwise le:=by
   by_cases h:a<st∧st<mid
   ·rw [if_pos h]
    exact Wp f P L1 R1 (L2++(R2++Q)) ha (by omega) (by omega) (by omega) (by omega) (by omega) (fun x hx=>by rcases List.mem_append.1 hx with h | h; exact rL1 x h; exact rR1 x h) pL.1 pR.1
   ·rw [if_neg h]
    refine ⟨L1++R1,by simp,List.Perm.refl _,?_⟩
    by_cases h0:a<st
    ·have:R1=[]:=List.eq_nil_of_length_eq_zero (by omega)
     subst this
     simpa using pL.1
    ·have:L1=[]:=List.eq_nil_of_length_eq_zero (by omega)
     subst this
     simpa using pR.1
  rw [h2]
  have hS1:S1.length=mid-a:=by rw [q2.length_eq,List.length_append]; omega
  obtain ⟨S2,h3,q4,q5⟩:∃ S2,(if mid<en∧en<b then Vh f mid en b (P++(S1++(L2++(R2++Q)))) else P++(S1++(L2++(R2++Q))))=P++(S1++(S2++Q))∧S2.Perm (L2++R2)∧S2.Pairwise le:=by
   by_cases h:mid<en∧en<b
   ·rw [if_pos h]
    obtain ⟨S2,k1,k2,k3⟩:=Wp f (a:=mid) (m:=en) (b:=b) (P++S1) L2 R2 Q (by rw [List.length_append]; omega) (by omega) (by omega) (by omega) (by omega) (by omega) (fun x hx=>by rcases List.mem_append.1 hx with h | h; exact rL2 x h; exact rR2 x h) pL.2.1 pR.2.1
    exact ⟨S2,by simpa using k1,k2,k3⟩
   ·rw [if_neg h]
    refine ⟨L2++R2,by simp,List.Perm.refl _,?_⟩
    by_cases h0:mid<en
    ·have:R2=[]:=List.eq_nil_of_length_eq_zero (by omega)
     subst this
     simpa using pL.2.1
    ·have:L2=[]:=List.eq_nil_of_length_eq_zero (by omega)
     subst this
     simpa using pR.2.1
  rw [h3]
  refine ⟨S1++S2,by simp,?_,?_⟩
  ·rw [hL12,hR12]
   refine (q2.append q4).trans ?_
   rw [List.append_assoc,List.append_assoc]
   refine List.Perm.append_left L1 ?_
   rw [← List.append_assoc,← List.append_assoc]
   exact List.Perm.append_right R2 List.perm_append_comm
  ·rw [List.pairwise_append]
   refine ⟨q3,q5,fun x hx y hy => ?_⟩
   rcases List.mem_append.1 (q2.mem_iff.1 hx) with hx | hx <;> rcases List.mem_append.1 (q4.mem_iff.1 hy) with hy | hy
   ·exact pL.2.2 x hx y hy
   ·exact c1 x hx y hy
   ·exact c2 x hx y hy
   ·exact pR.2.2 x hx y hy
end Go.Proofs.YtheflbaejhlboaaGreatDoor
namespace Go.Proofs.YtheflbaejhlboaaGreatDoor
open Go.RowKit
theorem V5:∀ (n:Nat) (P S T:List PI) (x:PI) {a j:Nat},S.length=n→a=P.length→j=a+n→RVs S→RV x.2.row→S.Pairwise le →
  ∃ S1 S2,QF a j (P++(S++x::T))=P++(S1++x::(S2++T))∧S=S1++S2∧(S1++x::S2).Pairwise le
 | 0,P,S,T,x,a,j,hn,ha,hj,_,_,_=>by
  have e:=List.eq_nil_of_length_eq_zero hn
  subst e
  refine ⟨[],[],?_,rfl,by simp⟩
  cases j with
  | zero=>rfl
  | succ j=>rw [QF,if_neg (by omega)]; rfl
 | n+1,P,S,T,x,a,j,hn,ha,hj,rS,rx,hS=>by
  obtain ⟨S',y,rfl⟩:∃ S' y,S=S'++[y]:=⟨S.dropLast,S.getLast (by intro h; subst h; cases hn),(List.dropLast_concat_getLast _).symm⟩
  simp only [List.length_append,List.length_cons,List.length_nil] at hn
  obtain ⟨j',rfl⟩:∃ j',j=j'+1:=⟨j-1,by omega⟩
  have e:P++(S'++[y]++x::T)=(P++S')++y::([]++x::T):=by simp
  have hx:(P++(S'++[y]++x::T))[j'+1]? = some x:=by
   rw [e,show (P++S')++y::([]++x::T)=(P++S'++[y])++x::T by simp]
   exact Ke _ x T (by simp; omega)
  have hy:(P++(S'++[y]++x::T))[j']? = some y:=by rw [e]; exact Ke _ y _ (by simp; omega)
  have ry:=rS y (by simp)
  have rS':RVs S':=rS.sub fun z hz=>by simp [hz]
  have pS:=List.pairwise_append.1 hS
  rw [QF,if_pos (by omega),hx,hy]
  simp only
  by_cases h:J3 x y<0
  ·rw [if_pos h]
   have hsw:((P++(S'++[y]++x::T)).set (j'+1) y).set j' x=P++(S'++x::(y::T)):=by
    have:=BH (P++S') [] T y x (i:=j'+1) (j:=j') (by simp; omega) (by simp; omega)
    rw [← e] at this
    unfold sw at this
    rw [hx,hy] at this
    simp only at this
    rw [this]
    simp
   rw [hsw]
   obtain ⟨S1,S2,h1,h2,h3⟩:=V5 n P S' (y::T) x (a:=a) (j:=j') (by omega) ha (by omega) rS' rx pS.1
   refine ⟨S1,S2++[y],by rw [h1]; simp,by rw [h2]; simp,?_⟩
   have h4:=List.pairwise_append.1 h3
   have h5:=List.pairwise_cons.1 h4.2.1
   rw [show S1++x::(S2++[y])=(S1++x::S2)++[y] by simp,List.pairwise_append]
   refine ⟨h3,by simp,fun z hz w hw => ?_⟩
   rw [List.mem_singleton.1 hw]
   rcases List.mem_append.1 hz with hz | hz
   ·exact pS.2.2 z (by rw [h2]; simp [hz]) y (by simp)
   ·rcases List.mem_cons.1 hz with rfl | hz
    ·exact le_of_lt h
    ·exact pS.2.2 z (by rw [h2]; simp [hz]) y (by simp)
  ·rw [if_neg h]
   refine ⟨S'++[y],[],by simp,by simp,?_⟩
   rw [List.pairwise_append]
   refine ⟨hS,by simp,fun z hz w hw => ?_⟩
   rw [List.mem_singleton.1 hw]
   have h1:=VK rx ry h
   rcases List.mem_append.1 hz with hz | hz
   ·exact le_trans' (rS' z hz) ry rx (pS.2.2 z hz y (by simp)) h1
   ·rw [List.mem_singleton.1 hz]; exact h1
theorem V6:∀ (M P S T:List PI) {a i:Nat},a=P.length→i=a+S.length→RVs (S++M)→S.Pairwise le →
  ∃ S',Jp a M.length i (P++(S++(M++T)))=P++(S'++T)∧S'.Perm (S++M)∧S'.Pairwise le
 | [],P,S,T,a,i,_,_,_,hS=>⟨S,rfl,by simp,hS⟩
 | x::M,P,S,T,a,i,ha,hi,rv,hS=>by
  rw [List.length_cons,Jp]
  obtain ⟨S1,S2,h1,h2,h3⟩:=V5 S.length P S (M++T) x (a:=a) (j:=i) rfl ha hi (rv.sub fun z hz=>by simp [hz]) (rv x (by simp)) hS
  have e:P++(S++(x::M++T))=P++(S++x::(M++T)):=by simp
  rw [e,h1]
  have hp:(S1++x::S2).Perm (S++[x]):=by
   rw [h2]
   exact List.perm_middle.trans (List.perm_append_singleton x (S1++S2)).symm
  obtain ⟨S',k1,k2,k3⟩:=V6 M P (S1++x::S2) T (a:=a) (i:=i+1) ha (by rw [hp.length_eq,List.length_append]; simp; omega) (fun z hz=>by
   rcases List.mem_append.1 hz with hz | hz
   ·have:=hp.mem_iff.1 hz
    exact rv z (by simp at this ⊢; rcases this with h | h; exact .inl h; exact .inr (.inl h))
   ·exact rv z (by simp [hz])) h3
  refine ⟨S',by rw [← k1]; simp,k2.trans ?_,k3⟩
  refine (hp.append_right M).trans ?_
  simp
def ins (a b:Nat) (ps:List PI):List PI:=Jp a (b-(a+1)) (a+1) ps
theorem NX (P M T:List PI) {a b:Nat} (ha:a=P.length) (hb:b=a+M.length) (rv:RVs M):∃ S',ins a b (P++(M++T))=P++(S'++T)∧S'.Perm M∧S'.Pairwise le:=by
 unfold ins
 cases M with
 | nil =>
  refine ⟨[],?_,by simp,by simp⟩
  rw [show b-(a+1)=0 by simp at hb; omega]
  rfl
 | cons x M =>
  obtain ⟨S',h1,h2,h3⟩:=V6 M P [x] T (a:=a) (i:=a+1) ha (by simp) (by simpa using rv) (by simp)
  refine ⟨S',?_,by simpa using h2,h3⟩
  rw [show b-(a+1)=M.length by simp at hb; omega]
  simpa using h1
def Tg:Nat→Nat→Nat→Nat→List PI→List PI
 | 0,_,_,_,ps=>ps
 | f+1,a,b,n,ps=>if b≤n then Tg f b (b+20) n (ins a b ps) else ins a n ps
def V7 (N k:Nat):Nat→Nat→Nat→List PI→List PI
 | 0,_,_,ps=>ps
 | f+1,a,b,ps=>if b≤N then V7 N k f b (b+2*k) (Vh N a (a+k) b ps) else if a+k<N then Vh N a (a+k) N ps else ps
def Tw (N:Nat):Nat→Nat→List PI→List PI
 | 0,_,ps=>ps
 | f+1,k,ps=>if k<N then Tw N f (k*2) (V7 N k (N+1) 0 (2*k) ps) else ps
inductive Hs (k:Nat):List PI→Prop
 | last (l:List PI):l.length≤k→l.Pairwise le→Hs k l
 | cons (A l:List PI):A.length=k→A.Pairwise le→Hs k l→Hs k (A++l)
theorem Hs.all {k:Nat} {l:List PI} (h:Hs k l) (hk:l.length≤k):l.Pairwise le:=by
 cases h with
 | last _ _ h=>exact h
 | cons A l hA h _ =>
  rw [List.length_append] at hk
  have:=List.eq_nil_of_length_eq_zero (l:=l) (by omega)
  subst this
  simpa using h
theorem NY:∀ (f:Nat) (P l:List PI) {a b n:Nat},a=P.length→b=a+20→n=a+l.length→l.length≤f→RVs l→∃ l',Tg (f+1) a b n (P++l)=P++l'∧l'.Perm l∧Hs 20 l'
 | f,P,l,a,b,n,ha,hb,hn,hf,rv=>by
  rw [Tg]
  by_cases h:b≤n
  ·rw [if_pos h]
   cases f with
   | zero=>omega
   | succ f =>
    obtain ⟨M,t,rfl,hM⟩:∃ M t,l=M++t∧M.length=20:=⟨l.take 20,l.drop 20,(List.take_append_drop _ l).symm,by rw [List.length_take]; omega⟩
    rw [List.length_append] at hn hf
    obtain ⟨S',h1,h2,h3⟩:=NX P M t ha (b:=b) (by omega) (rv.sub fun z hz=>by simp [hz])
    rw [h1]
    have e:P++(S'++t)=(P++S')++t:=by simp
    rw [e]
    obtain ⟨l',k1,k2,k3⟩:=NY f (P++S') t (a:=b) (b:=b+20) (n:=n) (by rw [List.length_append,h2.length_eq]; omega) rfl (by omega) (by omega) (rv.sub fun z hz=>by simp [hz])
    refine ⟨S'++l',by rw [k1]; simp,h2.append k2,.cons _ _ (by rw [h2.length_eq]; exact hM) h3 k3⟩
  ·rw [if_neg h]
   obtain ⟨S',h1,h2,h3⟩:=NX P l [] ha (b:=n) (by omega) rv
   simp only [List.append_nil] at h1
   exact ⟨S',h1,h2,.last _ (by rw [h2.length_eq]; omega) h3⟩
theorem Mh (N k:Nat) (hk:0<k):∀ (f:Nat) (P l:List PI) {a b:Nat},a=P.length→b=a+2*k→N=a+l.length→l.length≤f→RVs l→Hs k l→∃ l',V7 N k (f+1) a b (P++l)=P++l'∧l'.Perm l∧Hs (2*k) l'
 | f,P,l,a,b,ha,hb,hN,hf,rv,hr=>by
  have hstop:∀ (P l:List PI) (a b f:Nat),a=P.length→b=a+2*k→N=a+l.length→l.length≤k→V7 N k (f+1) a b (P++l)=P++l:=fun P l a b f ha hb hN hl=>by
   rw [V7,if_neg (by omega),if_neg (by omega)]
  cases hr with
  | last _ h1 h2=>exact ⟨l,hstop P l a b f ha hb hN h1,List.Perm.refl _,.last _ (by omega) h2⟩
  | cons A l hA pA hr =>
   rw [List.length_append] at hN hf
   have rA:RVs A:=rv.sub fun z hz=>by simp [hz]
   have rl:RVs l:=rv.sub fun z hz=>by simp [hz]
   cases hr with
   | last _ h1 h2 =>
    by_cases h0:l.length=0
    ·have:=List.eq_nil_of_length_eq_zero h0
     subst this
     refine ⟨A,?_,by simp,.last _ (by omega) pA⟩
     rw [List.append_nil]
     exact hstop P A a b f ha hb (by simpa using hN) (by omega)
    ·obtain ⟨S,k1,k2,k3⟩:=Wp N (a:=a) (m:=a+k) (b:=N) P A l [] ha (by omega) (by omega) (by omega) (by omega) (by omega) (fun z hz=>by rcases List.mem_append.1 hz with h | h; exact rA z h; exact rl z h) pA h2
     simp only [List.append_nil] at k1
     rw [V7]
     by_cases hb':b≤N
     ·rw [if_pos hb',show b=N by omega,k1]
      refine ⟨S,?_,k2,.last _ (by rw [k2.length_eq,List.length_append]; omega) k3⟩
      cases f with
      | zero=>rfl
      | succ f =>
       have:=hstop (P++S) [] N (N+2*k) f (by rw [List.length_append,k2.length_eq,List.length_append]; omega) rfl (by simp) (by simp)
       simpa using this
     ·rw [if_neg hb',if_pos (by omega),k1]
      exact ⟨S,rfl,k2,.last _ (by rw [k2.length_eq,List.length_append]; omega) k3⟩
   | cons B l hB pB hr =>
    rw [List.length_append] at hN hf
    obtain ⟨S,k1,k2,k3⟩:=Wp N (a:=a) (m:=a+k) (b:=b) P A B l ha (by omega) (by omega) (by omega) (by omega) (by omega) (fun z hz=>by rcases List.mem_append.1 hz with h | h; exact rA z h; exact rl z (by simp [h])) pA pB
    rw [V7,if_pos (by omega),k1]
    cases f with
    | zero=>omega
    | succ f =>
     rw [show P++(S++l)=(P++S)++l by simp]
     obtain ⟨l',j1,j2,j3⟩:=Mh N k hk f (P++S) l (a:=b) (b:=b+2*k) (by rw [List.length_append,k2.length_eq,List.length_append]; omega) rfl (by omega) (by omega) (rl.sub fun z hz=>by simp [hz]) hr
     refine ⟨S++l',by rw [j1]; simp,?_,.cons _ _ (by rw [k2.length_eq,List.length_append]; omega) k3 j3⟩
     refine (k2.append j2).trans ?_
     simp
theorem RO (N:Nat):∀ (f k:Nat) (l:List PI),0<k→N=l.length→N≤k*2^f→RVs l→Hs k l→∃ l',Tw N f k l=l'∧l'.Perm l∧l'.Pairwise le
 | 0,k,l,hk,hN,hf,rv,hr=>⟨l,rfl,List.Perm.refl _,hr.all (by omega)⟩
 | f+1,k,l,hk,hN,hf,rv,hr=>by
  rw [Tw]
  by_cases h:k<N
  ·rw [if_pos h]
   obtain ⟨l1,h1,h2,h3⟩:=Mh N k hk N [] l (a:=0) (b:=2*k) rfl (by omega) (by omega) (by omega) rv hr
   simp only [List.nil_append] at h1
   rw [h1]
   obtain ⟨l2,k1,k2,k3⟩:=RO N f (k*2) l1 (by omega) (by rw [h2.length_eq]; exact hN) (by rw [Nat.pow_succ] at hf; rw [Nat.mul_assoc,Nat.mul_comm 2]; exact hf) (fun z hz=>rv z (h2.mem_iff.1 hz)) (by rw [Nat.mul_comm]; exact h3)
   exact ⟨l2,k1,k2.trans h2,k3⟩
  ·rw [if_neg h]
   exact ⟨l,rfl,List.Perm.refl _,hr.all (by omega)⟩
end Go.Proofs.YtheflbaejhlboaaGreatDoor
namespace Go.Proofs.YtheflbaejhlboaaGreatDoor
open Go.RowKit
theorem Mi (a b:Nat) (ps:List PI):(ins a b ps).length=ps.length:=Vg _ _ _ _
theorem BI (a b:Nat) (ps:List PI):∀ z∈ins a b ps,z∈ps:=fun z h=>RM _ _ _ _ z h
set_option maxRecDepth 100000 in
set_option maxHeartbeats 8000000 in
theorem Ht {F:Nat→Prop} {w:World} {g N cap:Nat} {ps:List PI} (h:Arr w g ps) (hN:ps.length=N) (hcap:N≤cap) (hm:N≤100000000) (hp:∀ p∈ps,POk F w p) (hF:¬ F g) :
  Calls Tryz.prog 395 #[.slice (some ⟨g,0,none⟩) N cap,.int .i64 (N:Int),Ks] w fun e w'=>e = .returned (.tuple #[])∧(∃ f,N≤20*2^f∧Arr w' g (Tw N f 20 (Tg (N+1) 0 20 N ps)))∧Chg (fun k=>k=g) w w':=by
 have I1:∀ (a b:Nat) (W:World) (qs:List PI),Arr W g qs→qs.length=N→a≤b→b≤N→(∀ z∈qs,z∈ps)→Chg (fun k=>k=g) w W→Calls Tryz.prog 481 #[.slice (some ⟨g,0,none⟩) N cap,.int .i64 (a:Int),.int .i64 (b:Int),Ks] W fun e w'=>e = .returned (.tuple #[])∧Arr w' g (ins a b qs)∧Chg (fun k=>k=g) W w' :=
  fun a b W qs hA hl hab hb hq hc=>R7 hA hl hcap hab hb (by omega) (fun p hp'=>(hp p (hq p hp')).chg hc fun b hb _ e=>hF (e▸hb)) hF
 have I2:∀ (a m b:Nat) (W:World) (qs:List PI),Arr W g qs→qs.length=N→a<m→m<b→b≤N→(∀ z∈qs,z∈ps)→Chg (fun k=>k=g) w W→Calls Tryz.prog 482 #[.slice (some ⟨g,0,none⟩) N cap,.int .i64 (a:Int),.int .i64 (m:Int),.int .i64 (b:Int),Ks] W fun e w'=>e = .returned (.tuple #[])∧Arr w' g (Vh N a m b qs)∧Chg (fun k=>k=g) W w' :=
  fun a m b W qs hA hl h1 h2 hb hq hc=>Mg hcap (by omega) hF N (by omega) hA hl h1 h2 hb (fun p hp'=>(hp p (hq p hp')).chg hc fun b hb _ e=>hF (e▸hb))
 have H:=Lib.hid h
 have HN:=Lib.hid hN
 have HM:=Lib.hid hm
 have J1:=Lib.hid I1
 have J2:=Lib.hid I2
 clear h hN hm I1 I2 hp hF
 obtain ⟨qs0,hqs0⟩:∃ x,Tg (N+1) 0 20 N ps=x:=⟨_,rfl⟩
 rw [hqs0]
 have HQ0:=Lib.hid hqs0
 clear hqs0
 unfold Ks at J1 J2 ⊢
 go_enter Tryz.func395,Tryz.ntmps395
 go_wp2_with fail
 go_loopw [7,8] (fun x y wr=>∃ (A B:Nat) (qs:List PI),A≤N∧B=A+20∧x = .int .i64 A∧y = .int .i64 B∧Hid (qs.length=N)∧Hid (Arr wr g qs)∧Hid (∀ z∈qs,z∈ps)∧Hid (∃ f,N-A<f∧qs0=Tg f A B N qs)∧Chg (fun k=>k=g) w wr) (fun x _ _=>N-(intOf x).toNat)
 case atStart=>exact ⟨0,20,ps,Nat.zero_le _,rfl,rfl,rfl,HN,H,Lib.hid (fun z h=>h),Lib.hid ⟨N+1,by omega,HQ0.out.symm⟩,Chg.refl _ _⟩
 case round =>
  obtain ⟨A,B,qs,hA,hB,rfl,rfl,HL,HA,HQ,HR,hcw⟩:=hrel
  have hB1:A+20≤B:=by omega
  have hB2:B≤A+20:=by omega
  clear hB
  have hM:=HM.out
  obtain ⟨f0,hf0,hR⟩:=HR.out
  obtain ⟨f,rfl⟩:∃ f,f0=f+1:=⟨f0-1,by omega⟩
  rw [Tg] at hR
  by_cases hle:B≤N
  ·rw [if_pos hle] at hR
   have HR2:=Lib.hid hR
   have hc1:=J1.out A B wr qs HA.out HL.out (by omega) hle HQ.out hcw
   have v1:IntKind.i64.wrap ((B:Int)+20)=((B+20:Nat):Int):=by rw [show (B:Int)+20=((B+20:Nat):Int) by omega]; exact IntWalk.i64_in _ (by omega)
   clear hR
   go_wp2_with fail
   refine hc1.mono ?_
   rintro _ w2 ⟨rfl,hA2,hc2⟩
   have HA2:=Lib.hid hA2
   clear hA2
   go_wp2_with fail
   go_roundw
   case rel=>exact ⟨B,B+20,_,hle,rfl,rfl,by go_num,Lib.hid (by rw [Mi]; exact HL.out),HA2,Lib.hid (fun z h=>HQ.out z (BI _ _ _ z h)),Lib.hid ⟨f,by omega,HR2.out⟩,hcw.trans hc2 fun _ _ h=>h⟩
   case measure=>simp [intOf]; omega
  ·rw [if_neg hle] at hR
   have HR2:=Lib.hid hR
   have hc1:=J1.out A N wr qs HA.out HL.out hA (Nat.le_refl _) HQ.out hcw
   clear hR
   go_wp2_with fail
   refine hc1.mono ?_
   rintro _ w2 ⟨rfl,hA2,hc2⟩
   rw [← HR2.out] at hA2
   have HA2:=Lib.hid hA2
   have HL2:=Lib.hid (show qs0.length=N by rw [HR2.out,Mi]; exact HL.out)
   have HQ2:=Lib.hid (show ∀ z∈qs0,z∈ps from fun z h=>by rw [HR2.out] at h; exact HQ.out z (BI _ _ _ z h))
   have hcw2:=hcw.trans hc2 fun _ _ h=>h
   clear hA2 HR2 hc2 HR hcw HA HL HQ
   obtain ⟨wq,hwq⟩:∃ x,x=wr:=⟨_,rfl⟩
   subst hwq
   go_wp2_with fail
   go_loopw [6] (fun x wr=>∃ (K:Nat) (rs:List PI),20≤K∧K≤200000000∧x = .int .i64 K∧Hid (rs.length=N)∧Hid (Arr wr g rs)∧Hid (∀ z∈rs,z∈ps)∧Hid (∀ f,N≤K*2^f→∃ f',N≤20*2^f'∧Tw N f' 20 qs0=Tw N f K rs)∧Chg (fun k=>k=g) w wr) (fun x _=>N-(intOf x).toNat)
   case atStart=>exact ⟨20,qs0,Nat.le_refl _,by decide,rfl,HL2,HA2,HQ2,Lib.hid (fun f hf=>⟨f,hf,rfl⟩),hcw2⟩
   case round =>
    clear HA2 HL2 HQ2 hcw2
    obtain ⟨K0,rs,hK,hK2,rfl,HL,HA,HQ,HR,hcw⟩:=hrel
    by_cases hlt:K0<N
    ·obtain ⟨k2,hk2⟩:∃ x,2*K0=x:=⟨_,rfl⟩
     have v1:IntKind.i64.wrap (2*(K0:Int))=(k2:Int):=by rw [show 2*(K0:Int)=(k2:Int) by omega]; exact IntWalk.i64_in _ (by omega)
     have v2:IntKind.i64.wrap ((K0:Int)*2)=(k2:Int):=by rw [show (K0:Int)*2=(k2:Int) by omega]; exact IntWalk.i64_in _ (by omega)
     have HK2:=Lib.hid hk2
     have hk3:2*K0≤k2:=by omega
     have hk4:k2≤2*K0:=by omega
     clear hk2
     obtain ⟨wq,hwq⟩:∃ x,x=wr:=⟨_,rfl⟩
     subst hwq
     obtain ⟨pm,hpm⟩:∃ x,V7 N K0 (N+1) 0 k2 rs=x:=⟨_,rfl⟩
     have HPM:=Lib.hid hpm
     clear hpm
     go_wp2_with fail
     go_loopw [7,8] (fun x y wr=>∃ (A B:Nat) (us:List PI),A≤N∧B=A+k2∧x = .int .i64 A∧y = .int .i64 B∧Hid (us.length=N)∧Hid (Arr wr g us)∧Hid (∀ z∈us,z∈ps)∧Hid (∃ f,N-A<f∧pm=V7 N K0 f A B us)∧Chg (fun k=>k=g) w wr) (fun x _ _=>N-(intOf x).toNat)
     case atStart=>exact ⟨0,k2,rs,Nat.zero_le _,by omega,rfl,rfl,HL,HA,HQ,Lib.hid ⟨N+1,by omega,HPM.out.symm⟩,hcw⟩
     case round =>
      clear HL HA HQ hcw
      obtain ⟨A2,B2,us,hA2,hB2,rfl,rfl,HL,HA,HQ,HP,hcw⟩:=hrel
      have hB3:A2+k2≤B2:=by omega
      have hB4:B2≤A2+k2:=by omega
      clear hB2
      obtain ⟨f0,hf0,hR⟩:=HP.out
      obtain ⟨f,rfl⟩:∃ f,f0=f+1:=⟨f0-1,by omega⟩
      rw [V7] at hR
      obtain ⟨ak,hak⟩:∃ x,A2+K0=x:=⟨_,rfl⟩
      have v3:IntKind.i64.wrap ((A2:Int)+(K0:Int))=(ak:Int):=by rw [show (A2:Int)+(K0:Int)=(ak:Int) by omega]; exact IntWalk.i64_in _ (by omega)
      rw [hak,HK2.out] at hR
      have ha3:A2+K0≤ak:=by omega
      have ha4:ak≤A2+K0:=by omega
      clear hak
      by_cases hle2:B2≤N
      ·rw [if_pos hle2] at hR
       have HR2:=Lib.hid hR
       have hc1:=J2.out A2 ak B2 wr us HA.out HL.out (by omega) (by omega) hle2 HQ.out hcw
       have v4:IntKind.i64.wrap ((B2:Int)+(k2:Int))=((B2+k2:Nat):Int):=by rw [show (B2:Int)+(k2:Int)=((B2+k2:Nat):Int) by omega]; exact IntWalk.i64_in _ (by omega)
       clear hR
       go_wp2_with fail
       refine hc1.mono ?_
       rintro _ w3 ⟨rfl,hA3,hc3⟩
       have HA3:=Lib.hid hA3
       clear hA3
       go_wp2_with fail
       go_roundw
       case rel=>exact ⟨B2,B2+k2,_,hle2,rfl,rfl,by go_num,Lib.hid (by rw [JF]; exact HL.out),HA3,Lib.hid (fun z h=>HQ.out z (KP _ _ _ _ _ z h)),Lib.hid ⟨f,by omega,HR2.out⟩,hcw.trans hc3 fun _ _ h=>h⟩
       case measure=>simp [intOf]; omega
      ·rw [if_neg hle2] at hR
       have hstab:∀ us',pm=us'→∀ f,N≤k2*2^f→∃ f',N≤20*2^f'∧Tw N f' 20 qs0=Tw N f k2 us':=fun us' e f hf=>by
        obtain ⟨f',h1,h2⟩:=HR.out (f+1) (by rw [Nat.pow_succ,← Nat.mul_assoc,Nat.mul_right_comm,Nat.mul_comm K0 2,HK2.out]; exact hf)
        refine ⟨f',h1,h2.trans ?_⟩
        rw [Tw,if_pos hlt,Nat.mul_comm K0 2,HK2.out,HPM.out,e]
       by_cases hlt2:ak<N
       ·rw [if_pos hlt2] at hR
        have HS:=Lib.hid (hstab _ hR)
        have hc1:=J2.out A2 ak N wr us HA.out HL.out (by omega) hlt2 (Nat.le_refl _) HQ.out hcw
        clear hR hstab
        go_wp2_with fail
        refine hc1.mono ?_
        rintro _ w3 ⟨rfl,hA3,hc3⟩
        have HA3:=Lib.hid hA3
        clear hA3
        go_wp2_with fail
        go_roundw
        case rel=>exact ⟨k2,_,by omega,by omega,rfl,Lib.hid (by rw [JF]; exact HL.out),HA3,Lib.hid (fun z h=>HQ.out z (KP _ _ _ _ _ z h)),HS,hcw.trans hc3 fun _ _ h=>h⟩
        case measure=>simp [intOf]; omega
       ·rw [if_neg hlt2] at hR
        have HS:=Lib.hid (hstab _ hR)
        clear hR hstab
        go_wp2_with fail
        go_roundw
        case rel=>exact ⟨k2,us,by omega,by omega,rfl,HL,HA,HQ,HS,hcw⟩
        case measure=>simp [intOf]; omega
    ·have hge:¬ ((K0:Int)<(N:Int)):=by omega
     go_wp2_with fail
     go_end0
     obtain ⟨f',h1,h2⟩:=HR.out 0 (by rw [Nat.pow_zero,Nat.mul_one]; omega)
     exact ⟨rfl,⟨f',h1,by rw [h2]; exact HA.out⟩,hcw⟩
theorem T6 {F:Nat→Prop} {w:World} {g N cap:Nat} {ps:List PI} (h:Arr w g ps) (hN:ps.length=N) (hcap:N≤cap) (hm:N≤100000000) (hp:∀ p∈ps,POk F w p) (hF:¬ F g) (hr:RVs ps) :
  Calls Tryz.prog 284 #[.slice (some ⟨g,0,none⟩) N cap,Ks] w fun e w'=>e = .returned (.tuple #[])∧(∃ qs,Arr w' g qs∧qs.Perm ps∧qs.Pairwise le)∧Chg (fun k=>k=g) w w':=by
 have h1:=Ht h hN hcap hm hp hF
 unfold Ks at h1 ⊢
 go_enter Tryz.func284,Tryz.ntmps284
 go_wp2_with fail
 refine h1.mono ?_
 rintro _ w1 ⟨rfl,⟨f,hf,hA⟩,hc⟩
 go_wp2_with fail
 go_end0
 obtain ⟨l1,k1,k2,k3⟩:=NY N [] ps (a:=0) (b:=20) (n:=N) rfl rfl (by omega) (by omega) hr
 simp only [List.nil_append] at k1
 obtain ⟨l2,j1,j2,j3⟩:=RO N f 20 l1 (by decide) (by rw [k2.length_eq]; exact hN.symm) hf (fun z hz=>hr z (k2.mem_iff.1 hz)) k3
 rw [k1,j1] at hA
 exact ⟨rfl,⟨l2,hA,j2.trans k2,j3⟩,hc⟩
end Go.Proofs.YtheflbaejhlboaaGreatDoor
namespace Go.Proofs.YtheflbaejhlboaaGreatDoor
open Go.RowKit
theorem Mj {w:World} {A:Option Addr} {c:Nat} {f:Value} :
  Calls Tryz.prog 481 #[.slice A 0 c,.int .i64 0,.int .i64 0,f] w fun e w'=>e = .returned (.tuple #[])∧Chg (fun _=>False) w w':=by
 go_enter Tryz.func481,Tryz.ntmps481
 go_wp2_with fail
 go_loopw [8] (fun x wr=>x = .int .i64 1∧Chg (fun _=>False) w wr) (fun _ _=>0)
 case atStart=>exact ⟨rfl,Chg.refl _ _⟩
 case round =>
  obtain ⟨rfl,hc⟩:=hrel
  go_wp2_with fail
  go_end0
  exact ⟨rfl,hc⟩
theorem FT {w:World} {A:Option Addr} {c:Nat} {f:Value} :
  Calls Tryz.prog 395 #[.slice A 0 c,.int .i64 0,f] w fun e w'=>e = .returned (.tuple #[])∧Chg (fun _=>False) w w':=by
 have h1:=fun W=>Mj (w:=W) (A:=A) (c:=c) (f:=f)
 go_enter Tryz.func395,Tryz.ntmps395
 go_wp2_with fail
 go_loopw [7,8] (fun x y wr=>x = .int .i64 0∧y = .int .i64 20∧Chg (fun _=>False) w wr) (fun _ _ _=>0)
 case atStart=>exact ⟨rfl,rfl,Chg.refl _ _⟩
 case round =>
  obtain ⟨rfl,rfl,hc⟩:=hrel
  obtain ⟨wq,hwq⟩:∃ x,x=wr:=⟨_,rfl⟩
  subst hwq
  go_wp2_with fail
  refine (h1 _).mono ?_
  rintro _ w1 ⟨rfl,hc1⟩
  go_wp2_with fail
  go_loopw [6] (fun x wr=>x = .int .i64 20∧Chg (fun _=>False) w wr) (fun _ _=>0)
  case atStart=>exact ⟨rfl,hc.trans hc1 fun _ _ h=>h⟩
  case round =>
   clear hc
   obtain ⟨rfl,hc⟩:=hrel
   go_wp2_with fail
   go_end0
   exact ⟨rfl,hc⟩
theorem Eb {w:World} {A:Option Addr} {c:Nat} {f:Value} :
  Calls Tryz.prog 284 #[.slice A 0 c,f] w fun e w'=>e = .returned (.tuple #[])∧Chg (fun _=>False) w w':=by
 have h1:=fun W=>FT (w:=W) (A:=A) (c:=c) (f:=f)
 go_enter Tryz.func284,Tryz.ntmps284
 go_wp2_with fail
 refine (h1 _).mono ?_
 rintro _ w1 ⟨rfl,hc1⟩
 go_wp2_with fail
 go_end0
 exact ⟨rfl,hc1⟩
theorem FU:Ei Tryz.prog 44 44 59 2 40:=by
 obtain ⟨i,hi,hz,hs,hb⟩:=info_parts (P:=Tryz.prog) (e:=59) (z := .agg #[.slice none 0 0,.complex .f64 0 0]) (size:=2) (bytes:=40) (by kernel_rfl)
 exact ⟨Tryz.underlying44,⟨_,Tryz.underlying44⟩,⟨i,_,hi,hz,hs,hb,rfl⟩,by decide⟩
def old (w:World) (F:Nat→Prop):Nat→Prop:=fun b=>F b∧b<w.heap.size
def FV (F:Nat→Prop) (w:World) (l:List Itm) (u:Value) (w':World):Prop :=
 ∃ A cap ps,u = .slice A l.length cap∧l.length≤cap∧ps.map (·.2)=l∧(0<l.length→∃ g,A=some ⟨g,0,none⟩∧w.heap.size≤g∧Arr w' g ps)∧∀ p∈ps,POk (old w F) w' p
theorem T7 {F:Nat→Prop} {w:World} {v:Value} {l:List Itm} (h:Zt F w v l) (hlen:l.length≤1000000) :
  Calls Tryz.prog 283 #[v] w (Neu w (FV F w l)):=by
 obtain ⟨A,cap,ps,rfl,hn,hcap,hps,hcs,hok⟩:=h.Er
 have HL:=Lib.hid hlen
 have HC:=Lib.hid hcs
 have HP:=Lib.hid hps
 have HO:=Lib.hid (fun p hp=>(hok p hp).mono (G:=old w F) fun b hb hlt=>⟨hb,hlt⟩)
 have H1:=Lib.hid (Yc hok)
 have hpl:ps.length=l.length:=by rw [← hps,List.length_map]
 have HPL:=Lib.hid hpl
 clear hlen hcs hps hok h hpl
 have hz:=@Lib.run_eql_slice_nil Tryz.prog
 cases A with
 | none =>
  go_enter Tryz.func283,Tryz.ntmps283
  go_wp2_with fail
  go_ret
  have h0:l.length=0:=by
   rcases Nat.eq_zero_or_pos l.length with h0 | h0
   ·exact h0
   ·obtain ⟨b,off,e,_⟩:=HC.out.2 h0
    cases e
  exact ⟨_,rfl,⟨none,0,ps,by rw [h0]; rfl,by omega,HP.out,fun h=>by omega,HO.out⟩,Chg.refl _ _⟩
 | some ad =>
  have H2:=Lib.hid (show CsK (w.alloc (.cells #[] 59)) F 2 (some ad) l.length (ZC ps) from HC.out.chg ((Chg.refl (fun _=>False) w).alloc _) fun _ _ _ h=>h)
  go_enter Tryz.func283,Tryz.ntmps283
  go_wp2_with (at_builtin; refine ZK rfl _ _ 44 44 rfl 59 2 40 FU none _ 0 0 _ [] (ZC ps) _ rfl rfl (QE.Ws _ _ _ _) (Kt.slice H2.out) H1.out l.length ?_ ?_ ?_ ?_)
  ·exact Nat.zero_add _
  ·have:=HL.out; omega
  ·have:=HL.out; omega
  ·intro own' A' cap' w' hown hor hchg
   have HO':=Lib.hid hown
   clear hown
   go_wp2_with fail
   go_ret
   have hc:Chg (fun _=>False) w w':=((Chg.refl (fun _=>False) w).alloc _).trans hchg (fun _ _ hf=>by cases hf)
   refine ⟨_,rfl,⟨A',cap',ps,rfl,HO'.out.fits,HP.out,fun h0 => ?_,fun p hp=>(HO.out p hp).chg hc fun _ _ _ h=>h⟩,hc⟩
   rcases HO'.out.2.2 with ⟨e1,e2⟩ | ⟨g,cur,e1,e2,e3,e4,e5,e6⟩
   ·have:=HO'.out.fits; omega
   ·refine ⟨g,e2,?_,⟨cur,e3,?_⟩,fun p hp => ?_⟩
    ·rcases hor with h1 | h1
     ·rw [h1] at e1; cases e1
     ·rw [h1] at e1; simp at e1; omega
    ·rw [HPL.out]; simpa using e6
    ·obtain ⟨⟨a1,c1,e,_⟩,_⟩:=HO.out p hp
     rw [e]; rfl
end Go.Proofs.YtheflbaejhlboaaGreatDoor
namespace Go.Proofs.YtheflbaejhlboaaGreatDoor
def JG:List Itm→List Vl→Int
 | [],_=>0
 | x::l,r=>(if x.row=r then x.net else 0)+JG l r
def nf:List (List Vl×Int)→List Vl→Int
 | [],_=>0
 | p::l,r=>(if p.1=r then p.2 else 0)+nf l r
def ZJ:List Itm→Nat
 | []=>0
 | x::l=>x.a+x.b+ZJ l
theorem X4 (l m:List Itm) (r:List Vl):JG (l++m) r=JG l r+JG m r:=by
 induction l with
 | nil=>simp [JG]
 | cons x l ih=>rw [List.cons_append,JG,JG,ih]; omega
theorem NZ (l m:List (List Vl×Int)) (r:List Vl):nf (l++m) r=nf l r+nf m r:=by
 induction l with
 | nil=>simp [nf]
 | cons x l ih=>rw [List.cons_append,nf,nf,ih]; omega
theorem X9 (l m:List Itm):ZJ (l++m)=ZJ l+ZJ m:=by
 induction l with
 | nil=>simp [ZJ]
 | cons x l ih=>rw [List.cons_append,ZJ,ZJ,ih]; omega
theorem Ec {l m:List Itm} (h:l.Perm m) (r:List Vl):JG l r=JG m r:=by
 induction h with
 | nil=>rfl
 | cons x _ ih=>rw [JG,JG,ih]
 | swap x y l=>simp only [JG]; omega
 | trans _ _ h1 h2=>exact h1.trans h2
theorem Ed {l m:List Itm} (h:l.Perm m):ZJ l=ZJ m:=by
 induction h with
 | nil=>rfl
 | cons x _ ih=>rw [ZJ,ZJ,ih]
 | swap x y l=>simp only [ZJ]; omega
 | trans _ _ h1 h2=>exact h1.trans h2
theorem TV (S:List (List Vl×Int)) (r:List Vl):JG (Zz S) r=nf S r:=by
 induction S with
 | nil=>rfl
 | cons p S ih =>
  show JG (ZI p::Zz S) r=_
  rw [JG,nf,ih]
  have:(ZI p).net=p.2:=by unfold Itm.net ZI; simp only; omega
  rw [this]
  rfl
structure ZP (S:List (List Vl×Int)):Prop where
 row:∀ p∈S,Zl p.1=true
 net:∀ p∈S,p.2≠0
 ord:S.Pairwise fun p q=>Qp p.1 q.1<0
theorem ZP.tail {p:List Vl×Int} {S:List (List Vl×Int)} (h:ZP (p::S)):ZP S :=
 ⟨fun x hx=>h.row x (by simp [hx]),fun x hx=>h.net x (by simp [hx]),(List.pairwise_cons.1 h.ord).2⟩
theorem ZP.nil:ZP []:=⟨fun p h=>(by cases h),fun p h=>(by cases h),List.Pairwise.nil⟩
theorem Xr {r:List Vl} (h:RV r):¬ Qp r r<0:=by rw [(QI h h).2 rfl]; omega
theorem Wk {S:List (List Vl×Int)} {r:List Vl} (h:∀ p∈S,p.1≠r):nf S r=0:=by
 induction S with
 | nil=>rfl
 | cons p S ih =>
  rw [nf,if_neg (h p (by simp)),ih fun q hq=>h q (by simp [hq])]
  rfl
theorem ZP.Wq {p:List Vl×Int} {S:List (List Vl×Int)} (h:ZP (p::S)):nf (p::S) p.1=p.2:=by
 rw [nf,if_pos rfl,Wk,Int.add_zero]
 intro q hq e
 have:=(List.pairwise_cons.1 h.ord).1 q hq
 rw [e] at this
 exact Xr (ZG (h.row p (by simp))) this
theorem ZP.P7 {S:List (List Vl×Int)} (h:ZP S) {p:List Vl×Int} (hp:p∈S):nf S p.1=p.2:=by
 induction S with
 | nil=>cases hp
 | cons q S ih =>
  rcases List.mem_cons.1 hp with rfl | hp'
  ·exact h.Wq
  ·rw [nf,if_neg,ih h.tail hp',Int.zero_add]
   intro e
   have:=(List.pairwise_cons.1 h.ord).1 p hp'
   rw [e] at this
   exact Xr (ZG (h.row p hp)) this
theorem ZP.mem_of {S:List (List Vl×Int)} {r:List Vl} (h:nf S r≠0):∃ p∈S,p.1=r:=by
 by_cases e:∃ p∈S,p.1=r
 ·exact e
 ·exact absurd (Wk fun p hp he=>e ⟨p,hp,he⟩) h
theorem ZP.mem_iff {S:List (List Vl×Int)} (h:ZP S) (p:List Vl×Int):p∈S↔(nf S p.1=p.2∧p.2≠0):=by
 constructor
 ·intro hp
  exact ⟨h.P7 hp,h.net p hp⟩
 ·rintro ⟨h1,h2⟩
  obtain ⟨q,hq,e⟩:=ZP.mem_of (r:=p.1) (S:=S) (by rw [h1]; exact h2)
  have h3:=h.P7 hq
  rw [e,h1] at h3
  have:p=q:=Prod.ext e.symm h3
  rw [this]
  exact hq
theorem ZP.uniq:∀ {S T:List (List Vl×Int)},ZP S→ZP T→(∀ r,nf S r=nf T r)→S=T
 | [],[],_,_,_=>rfl
 | [],q::T,_,hT,h=>by
  have:=h q.1
  rw [hT.Wq] at this
  exact absurd this.symm (hT.net q (by simp))
 | p::S,[],hS,_,h=>by
  have:=h p.1
  rw [hS.Wq] at this
  exact absurd this (hS.net p (by simp))
 | p::S,q::T,hS,hT,h=>by
  have hp:p∈q::T:=(hT.mem_iff p).2 ⟨by rw [← h,hS.Wq],hS.net p (by simp)⟩
  have hq:q∈p::S:=(hS.mem_iff q).2 ⟨by rw [h,hT.Wq],hT.net q (by simp)⟩
  have rp:=ZG (hS.row p (by simp))
  have rq:=ZG (hT.row q (by simp))
  have e:p=q:=by
   rcases List.mem_cons.1 hp with e | hp'
   ·exact e
   ·rcases List.mem_cons.1 hq with e | hq'
    ·exact e.symm
    ·have h1:=(List.pairwise_cons.1 hT.ord).1 p hp'
     have h2:=(List.pairwise_cons.1 hS.ord).1 q hq'
     exact absurd (XT rp rq rp h2 h1) (Xr rp)
  subst e
  rw [ZP.uniq hS.tail hT.tail fun r=>by
   have:=h r
   rw [nf,nf] at this
   omega]
theorem ZP.zr {S:List (List Vl×Int)} (h:ZP S) (hb:∀ p∈S,-1125899906842624≤p.2∧p.2≤1125899906842624):ZR S where
 row:=h.row
 net:=fun p hp=>⟨h.net p hp,hb p hp⟩
 ord:=fun j p q hp hq=>by
  have h1:=List.pairwise_iff_getElem.1 h.ord
  obtain ⟨l1,e1⟩:=List.getElem?_eq_some_iff.1 hp
  obtain ⟨l2,e2⟩:=List.getElem?_eq_some_iff.1 hq
  have:=h1 j (j+1) l1 l2 (by omega)
  rw [e1,e2] at this
  unfold R9
  rw [h.row p (List.mem_of_getElem? hp),h.row q (List.mem_of_getElem? hq)]
  simpa using this
theorem ZP.snoc {S:List (List Vl×Int)} (h:ZP S) {q:List Vl} {s:Int} (hq:Zl q=true) (hs:s≠0) (hl:∀ p∈S,Qp p.1 q<0):ZP (S++[(q,s)]) where
 row:=fun p hp=>by
  rcases List.mem_append.1 hp with hp | hp
  ·exact h.row p hp
  ·rw [List.mem_singleton.1 hp]; exact hq
 net:=fun p hp=>by
  rcases List.mem_append.1 hp with hp | hp
  ·exact h.net p hp
  ·rw [List.mem_singleton.1 hp]; exact hs
 ord:=by
  rw [List.pairwise_append]
  refine ⟨h.ord,by simp,fun p hp r hr => ?_⟩
  rw [List.mem_singleton.1 hr]
  exact hl p hp
end Go.Proofs.YtheflbaejhlboaaGreatDoor
