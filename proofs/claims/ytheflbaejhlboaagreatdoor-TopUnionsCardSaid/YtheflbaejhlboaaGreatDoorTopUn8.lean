/- A part of the proof of a law of package confluencetop: lemmas, no condition of ours. -/
import Derived.Test.YtheflbaejhlboaaGreatDoorTopUn7
import Derived.Test.YtheflbaejhlboaaGreatDoorTopUn1
import Derived.Test.YtheflbaejhlboaaGreatDoorTopUn0
import Derived.ProofKit
import Derived.OpenShut
import Derived.Deep.Slices
set_option linter.unusedVariables false
set_option linter.unusedSectionVars false
set_option linter.unusedSimpArgs false
namespace Go.Proofs.YtheflbaejhlboaaGreatDoor
open Go.RowKit
set_option maxHeartbeats 4000000 in
set_option maxRecDepth 100000 in
theorem MG {F:Nat→Prop} {w:World} {c rv:Value} {r:List Vl} {a b fb gb nb db doff dn dcap N:Nat} (e1:w.cell? ⟨fb,0,none⟩=some (.pointer (some ⟨gb,0,none⟩)))
  (e2:w.cell? ⟨gb,1,none⟩=some (.slice (some ⟨db,doff,none⟩) dn dcap)) (e3:w.cell? ⟨nb,0,none⟩=some (.int .i64 N)) (hN:N<dn) (hdn:dn≤1000000) (e4:w.cell? ⟨db,doff+N*2+1,none⟩=some c)
  (hk:Vb w c (r.map (·.k))) (h:Zq F w rv r) (hr:∀ x∈r,x.right=true) (hlen:r.length≤1000000) :
  Calls Tryz.prog 175 #[.agg #[rv,tc a b],.pointer (some ⟨fb,0,none⟩),.pointer (some ⟨nb,0,none⟩)] w fun e w'=>e = .returned (.bool false)∧Chg (fun _=>False) w w':=by
 have h1:=fun W (hW:Chg (fun _=>False) w W)=>Wh (hk.Zi hW) (h.Zi hW) hr hlen
 obtain ⟨A,cap,rfl,_⟩:=h
 obtain ⟨CA,ccap,rfl,_⟩:=hk
 rw [List.length_map] at e4 h1
 unfold tc
 clear hr hlen
 have hd:Chg (fun _=>False) w (w.alloc (.cells #[.slice A r.length cap,.complex .f64 (fl a) (fl b)] 59)).drew:=((Chg.refl _ w).alloc _).drew
 have c1:=hd.cell e1 (fun h=>h)
 have c2:=hd.cell e2 (fun h=>h)
 have c3:=hd.cell e3 (fun h=>h)
 have c4:=hd.cell e4 (fun h=>h)
 have c5:((w.alloc (.cells #[.slice A r.length cap,.complex .f64 (fl a) (fl b)] 59)).drew).cell? ⟨w.heap.size,0,none⟩=some (.slice A r.length cap):=by go_simp
 go_enter Tryz.func175,Tryz.ntmps175
 go_wp2_with fail
 refine Zm [0,3,4,7,9] (S:=fun wx=>wx.cell? ⟨fb,0,none⟩=some (.pointer (some ⟨gb,0,none⟩))∧wx.cell? ⟨gb,1,none⟩=some (.slice (some ⟨db,doff,none⟩) dn dcap)∧wx.cell? ⟨nb,0,none⟩=some (.int .i64 N)∧wx.cell? ⟨db,doff+N*2+1,none⟩=some (.slice CA r.length ccap)∧wx.cell? ⟨w.heap.size,0,none⟩=some (.slice A r.length cap)) (by kernel_rfl) ⟨c1,c2,c3,c4,c5⟩ (fun hHeld => ?_)
 refine Zp (i:=0) (some 5) (v := ?_) (by decide) rfl rfl (by kernel_rfl) (by kernel_rfl) (by kernel_rfl) (fun _ _ _ h=>h) (Or.inl ⟨by rfl,?_⟩) (by assumption) ?_
 rotate_left
 ·(intro wx hSw; go_simp; try (with_reducible rfl))
 try simp only [Act.put,List.setIfInBounds_toArray,List.set_cons_zero,List.set_cons_succ]
 refine Zb (i:=1) (some 6) (v := ?_) rfl rfl (by kernel_rfl) (by kernel_rfl) (by kernel_rfl) (fun _ _ _ h=>h) (Or.inl ⟨by rfl,?_⟩) ?_
 rotate_left
 ·(intro wx hSw; clear hSw; go_simp; try (with_reducible rfl))
 try simp only [Act.put,List.setIfInBounds_toArray,List.set_cons_zero,List.set_cons_succ]
 refine Zb (i:=2) (some 7) (v := ?_) rfl rfl (by kernel_rfl) (by kernel_rfl) (by kernel_rfl) (fun _ _ _ h=>h) (Or.inl ⟨by rfl,?_⟩) ?_
 rotate_left
 ·(intro wx hSw; clear hSw; go_simp; try (with_reducible rfl))
 try simp only [Act.put,List.setIfInBounds_toArray,List.set_cons_zero,List.set_cons_succ]
 refine Zp (i:=3) (some 8) (v := ?_) (by decide) rfl rfl (by kernel_rfl) (by kernel_rfl) (by kernel_rfl) (fun _ _ _ h=>h) (Or.inl ⟨by rfl,?_⟩) (by assumption) ?_
 rotate_left
 ·(intro wx hSw; go_simp; try (with_reducible rfl))
 try simp only [Act.put,List.setIfInBounds_toArray,List.set_cons_zero,List.set_cons_succ]
 refine Zp (i:=4) (some 9) (v := ?_) (by decide) rfl rfl (by kernel_rfl) (by kernel_rfl) (by kernel_rfl) (fun _ _ _ h=>h) (Or.inl ⟨by rfl,?_⟩) (by assumption) ?_
 rotate_left
 ·(intro wx hSw; go_simp; try (with_reducible rfl))
 try simp only [Act.put,List.setIfInBounds_toArray,List.set_cons_zero,List.set_cons_succ]
 refine Zb (i:=5) (some 10) (v := ?_) rfl rfl (by kernel_rfl) (by kernel_rfl) (by kernel_rfl) (fun _ _ _ h=>h) (Or.inl ⟨by rfl,?_⟩) ?_
 rotate_left
 ·(intro wx hSw; clear hSw; go_simp; try (with_reducible rfl))
 try simp only [Act.put,List.setIfInBounds_toArray,List.set_cons_zero,List.set_cons_succ]
 refine Zb (i:=6) (some 11) (v := ?_) rfl rfl (by kernel_rfl) (by kernel_rfl) (by kernel_rfl) (fun _ _ _ h=>h) (Or.inl ⟨by rfl,?_⟩) ?_
 rotate_left
 ·(intro wx hSw; clear hSw; go_simp; try (with_reducible rfl))
 try simp only [Act.put,List.setIfInBounds_toArray,List.set_cons_zero,List.set_cons_succ]
 refine Zp (i:=7) (some 12) (v := ?_) (by decide) rfl rfl (by kernel_rfl) (by kernel_rfl) (by kernel_rfl) (fun _ _ _ h=>h) (Or.inl ⟨by rfl,?_⟩) (by assumption) ?_
 rotate_left
 ·(intro wx hSw; go_simp; try (with_reducible rfl))
 try simp only [Act.put,List.setIfInBounds_toArray,List.set_cons_zero,List.set_cons_succ]
 refine Zb (i:=8) (some 13) (v := ?_) rfl rfl (by kernel_rfl) (by kernel_rfl) (by kernel_rfl) (fun _ _ _ h=>h) (Or.inl ⟨by rfl,?_⟩) ?_
 rotate_left
 ·(intro wx hSw; clear hSw; go_simp; try (with_reducible rfl))
 try simp only [Act.put,List.setIfInBounds_toArray,List.set_cons_zero,List.set_cons_succ]
 refine Zp (i:=9) (some 14) (v := ?_) (by decide) rfl rfl (by kernel_rfl) (by kernel_rfl) (by kernel_rfl) (fun _ _ _ h=>h) (Or.inl ⟨by rfl,?_⟩) (by assumption) ?_
 rotate_left
 ·(intro wx hSw; go_simp; try (with_reducible rfl))
 try simp only [Act.put,List.setIfInBounds_toArray,List.set_cons_zero,List.set_cons_succ]
 refine Zj (rs:=[10]) (by kernel_rfl) (by simp) ?_
 refine Zf.cons rfl (fun K hK => ?_) Zf.nil
 go_simp
 refine (h1 _ hd).mono ?_
 rintro _ wA ⟨rfl,hA⟩
 have d1:=hA.cell c1 (fun h=>h)
 have d2:=hA.cell c2 (fun h=>h)
 have d3:=hA.cell c3 (fun h=>h)
 have d4:=hA.cell c4 (fun h=>h)
 have d5:=hA.cell c5 (fun h=>h)
 have hSA:=And.intro d1 (And.intro d2 (And.intro d3 (And.intro d4 d5)))
 have hcA:=hd.trans hA fun _ _ h=>h
 refine hK.out _ _ ?_ ?_
 ·((intro _; exact hSA))
 clear hK K
 try simp only [Act.put,List.setIfInBounds_toArray,List.set_cons_zero,List.set_cons_succ]
 refine Zb (i:=11) (some 16) (v := ?_) rfl rfl (by kernel_rfl) (by kernel_rfl) (by kernel_rfl) (fun _ _ _ h=>h) (Or.inl ⟨by rfl,?_⟩) ?_
 rotate_left
 ·(intro wx hSw; clear hSw; go_simp; try (with_reducible rfl))
 try simp only [Act.put,List.setIfInBounds_toArray,List.set_cons_zero,List.set_cons_succ]
 refine Zb (i:=12) (some 4) (v := ?_) rfl rfl (by kernel_rfl) (by kernel_rfl) (by kernel_rfl) (fun _ _ _ h=>h) (Or.inl ⟨by rfl,?_⟩) ?_
 rotate_left
 ·(intro wx hSw; clear hSw; go_simp; try (with_reducible rfl))
 try simp only [Act.put,List.setIfInBounds_toArray,List.set_cons_zero,List.set_cons_succ]
 refine Zw (by kernel_rfl) ?_ _
 go_wp2_with fail
 go_ret
 exact ⟨rfl,hcA⟩
end Go.Proofs.YtheflbaejhlboaaGreatDoor
namespace Go.Proofs.YtheflbaejhlboaaGreatDoor
def Xc (N H:List (List Vl×Int)) (p:List Vl×Int):Option (List Vl×Int) :=
 if Ql N p.1≠0 then (if Ql H p.1≠0 then none else some (p.1,1)) else (if Ql H p.1≠0 then some (p.1,-1) else none)
def Wi (D N H:List (List Vl×Int)):List (List Vl×Int):=D.filterMap (Xc N H)
theorem FZ {a b:List Vl} (ha:Zl a=true) (hb:Zl b=true):XX a b=decide (a=b):=by
 unfold XX
 rw [ha,hb,Bool.true_and,Bool.true_and]
 have:=QI (ZG ha) (ZG hb)
 by_cases h:a=b
 ·rw [decide_eq_true h,decide_eq_true (this.2 h)]
 ·simp [h]
  exact fun h2=>h (this.1 h2)
theorem KN {S:List (List Vl×Int)} (h:ZP S) {r:List Vl} (hr:Zl r=true):Ql S r=nf S r:=by
 induction S with
 | nil=>rfl
 | cons p S ih =>
  rw [Ql,FZ (h.row p (by simp)) hr]
  by_cases e:p.1=r
  ·subst e
   simp only [decide_true,if_true]
   exact h.Wq.symm
  ·simp only [e,decide_false,Bool.false_eq_true,if_false]
   rw [ih h.tail,nf,if_neg e,Int.zero_add]
theorem Jv {N H:List (List Vl×Int)} {p q:List Vl×Int} (h:Xc N H p=some q):q.1=p.1∧(q.2=1∨q.2 = -1):=by
 unfold Xc at h
 split at h <;> split at h <;> first | (cases h; done) | (cases h; simp)
theorem Bv {D N H:List (List Vl×Int)} (h:ZP D):ZP (Wi D N H) where
 row:=fun q hq=>by
  obtain ⟨p,hp,e⟩:=List.mem_filterMap.1 hq
  rw [(Jv e).1]
  exact h.row p hp
 net:=fun q hq=>by
  obtain ⟨p,hp,e⟩:=List.mem_filterMap.1 hq
  rcases (Jv e).2 with e | e <;> rw [e] <;> decide
 ord:=by
  unfold Wi
  rw [List.pairwise_filterMap]
  refine h.ord.imp fun {p q} hpq p' hp q' hq => ?_
  rw [(Jv hp).1,(Jv hq).1]
  exact hpq
theorem Zdx {D N H:List (List Vl×Int)} (h:ZP D) (r:List Vl):nf (Wi D N H) r=if nf D r≠0 then (match Xc N H (r,0) with | some q=>q.2 | none=>0) else 0:=by
 induction D with
 | nil=>rfl
 | cons p D ih =>
  have ih:=ih h.tail
  have hp:Xc N H p=Xc N H (p.1,0):=rfl
  unfold Wi at ih ⊢
  rw [List.filterMap_cons]
  by_cases e:p.1=r
  ·subst e
   have h0:nf D p.1=0:=Wk fun q hq e=>by
    have:=(List.pairwise_cons.1 h.ord).1 q hq
    rw [e] at this
    exact Xr (ZG (h.row p (by simp))) this
   rw [h0] at ih
   simp only [ne_eq,not_true_eq_false,if_false] at ih
   rw [h.Wq,if_pos (h.net p (by simp)),hp]
   cases hd:Xc N H (p.1,0) with
   | none=>simpa [hd] using ih
   | some q =>
    have:=(Jv hd).1
    simp only [nf,ih]
    rw [if_pos this,Int.add_zero]
  ·have h1:nf (p::D) r=nf D r:=by rw [nf,if_neg e,Int.zero_add]
   rw [h1,← ih]
   cases hd:Xc N H p with
   | none=>rfl
   | some q =>
    have:=(Jv hd).1
    simp only [nf]
    rw [if_neg (by rw [this]; exact e),Int.zero_add]
end Go.Proofs.YtheflbaejhlboaaGreatDoor
namespace Go.Proofs.YtheflbaejhlboaaGreatDoor
open Go.RowKit
theorem fl0:fl 0=0:=by kernel_rfl
theorem Zco {n:Int} (h1 : -1000000≤n) (h2:n≤1000000) (P:Program) (t:TypeId) (W:World) :
  (binOp .neq t (.complex .f64 (fl n.toNat) (fl (-n).toNat)) (.complex .f64 0 0)).run P W = .ok (.bool (decide (n≠0))) W:=by
 have e:(Value.complex .f64 0 0) = .complex .f64 (fl 0) (fl 0):=by rw [fl0]
 rw [e,Xk (by omega) (by omega) (by decide) (by decide)]
 congr 2
 by_cases h:n=0
 ·subst h; rfl
 ·have:(decide (n.toNat=0) && decide ((-n).toNat=0))=false:=by
   rw [Bool.and_eq_false_iff,decide_eq_false_iff_not,decide_eq_false_iff_not]
   omega
  rw [this]
  simp [h]
theorem VL {D N H:List (List Vl×Int)} {I:Nat} {p:List Vl×Int} (h:D[I]? = some p):Wi (D.take (I+1)) N H=Wi (D.take I) N H++(Xc N H p).toList:=by
 unfold Wi
 rw [List.take_add_one,h,List.filterMap_append]
 cases hd:Xc N H p <;> simp [hd]
theorem VM {N H:List (List Vl×Int)} {r:List Vl} {n x1 x2:Int} {y1 y2:Bool} (h1:y1=decide (x1≠0)) (e1:x1=Ql N r) (h2:y2=decide (x2≠0)) (e2:x2=Ql H r) :
  Xc N H (r,n)=if y1 then (if y2 then none else some (r,1)) else (if y2 then some (r,-1) else none):=by
 subst e1 e2 h1 h2
 unfold Xc
 simp only [decide_eq_true_eq]
set_option maxHeartbeats 4000000 in
set_option maxRecDepth 100000 in
theorem UR {F G J:Nat→Prop} {w:World} {mb kb ko kn kc qb:Nat} {d nv hv:Value} {D N H:List (List Vl×Int)} (hd:Zt F w d (Zz D)) (hnv:Zt G w nv (Zz N)) (hhv:Zt J w hv (Zz H))
  (e1:w.cell? ⟨mb,9,none⟩=some (.slice (some ⟨kb,ko,none⟩) kn kc)) (hkn:0<kn) (hkm:kn≤1000000) (e2:w.cell? ⟨kb,ko,none⟩=some (.pointer (some ⟨qb,0,none⟩))) (e3:w.cell? ⟨qb,11,none⟩=some nv) (e4:w.cell? ⟨mb,11,none⟩=some hv)
  (zN:ZR N) (zH:ZR H) (bN:∀ r,-1000000≤Ql N r∧Ql N r≤1000000) (bH:∀ r,-1000000≤Ql H r∧Ql H r≤1000000) (hlen:D.length≤4096) :
  Calls Tryz.prog 182 #[.pointer (some ⟨mb,0,none⟩),d] w (Neu w fun u w'=>Zt (fun b=>new w b∨F b∧b<w.heap.size) w' u (Zz (Wi D N H))):=by
 have hof1:=fun (rv:Value) (r:List Vl) (hr:Zq F w rv r) W (hW:Chg (fun _=>False) w W)=>TQ (hnv.Zi hW) zN (hr.Zi hW)
 have hof2:=fun (rv:Value) (r:List Vl) (hr:Zq F w rv r) W (hW:Chg (fun _=>False) w W)=>TQ (hhv.Zi hW) zH (hr.Zi hW)
 obtain ⟨A,cap,rfl,hn,hcap,hat⟩:=hd
 obtain ⟨NA,ncap,rfl,_⟩:=hnv
 obtain ⟨HA,hcap2,rfl,_⟩:=hhv
 rw [ZU] at hn hat hof1 hof2 e3 e4 ⊢
 have HAT:=Lib.hid hat
 have HL:=Lib.hid hlen
 have HO1:=Lib.hid hof1
 have HO2:=Lib.hid hof2
 have HBN:=Lib.hid bN
 have HBH:=Lib.hid bH
 clear hat hlen hof1 hof2 bN bH
 go_enter Tryz.func182,Tryz.ntmps182
 go_wp2_with fail
 go_loopw [22,5] (fun i s wr=>∃ (I:Nat) (own:Option Nat) (B:Option Addr) (K c:Nat) (ps:List PI),I≤D.length∧i = .int .i64 I∧s = .slice B K c∧Hid (K=ps.length∧K≤I)∧Hid (ps.map (·.2)=Zz (Wi (D.take I) N H))∧Hid (QE wr 59 2 own B K c (ZC ps))∧Hid (∀ g,own=some g→w.heap.size≤g)∧Hid (∀ p∈ps,POk (fun b=>F b∧b<w.heap.size) wr p)∧Chg (fun _=>False) w wr) (fun i _ _=>D.length-(intOf i).toNat)
 case atStart=>exact ⟨0,none,none,0,0,[],Nat.zero_le _,rfl,rfl,Lib.hid ⟨rfl,Nat.le_refl _⟩,Lib.hid (by simp [Wi,Zz]),Lib.hid (QE.Ws _ _ _ _),Lib.hid (fun g h=>by cases h),Lib.hid (fun p h=>by cases h),Chg.refl _ _⟩
 case round =>
  obtain ⟨I,own,B,L0,c,ps,hI,rfl,rfl,HK,HM,HO,HN,HP,hcw⟩:=hrel
  by_cases hlt:I<D.length
  ·obtain ⟨b,off,rfl,_,hb,hx⟩:=HAT.out (by omega)
   obtain ⟨⟨r,n⟩,hxI⟩:∃ x,D[I]? = some x:=⟨_,List.getElem?_eq_getElem hlt⟩
   obtain ⟨⟨rv,p0,hrow⟩,p1,_,_,hrl⟩:=hx I (ZI (r,n)) (PT hxI)
   simp only [ZI] at hrow p1 hrl
   have q0:=hcw.cell p0 (fun h=>h)
   have q1:=hcw.cell p1 (fun h=>h)
   have qm:=hcw.cell e4 (fun h=>h)
   have hof1:=HO1.out rv r hrow
   have hof2:=HO2.out rv r hrow
   have HROW:=Lib.hid hrow
   obtain ⟨RA,rcap,rfl,_⟩:=hrow
   unfold tc at q1 p1
   have hst:=Z5
   have HX:=Lib.hid hxI
   have HRL:=Lib.hid hrl
   have ne1:=Zco (HBN.out r).1 (HBN.out r).2
   have ne2:=Zco (HBH.out r).1 (HBH.out r).2
   unfold tn tc at hof1 hof2
   have htof10:∀ W,Calls Tryz.prog 165 #[.int .i64 1,.int .i64 0] W fun e w'=>e = .returned (.complex .f64 (fl 1) (fl 0))∧Chg (fun _=>False) W w':=fun W=>Sw 1 0 W
   have htof01:∀ W,Calls Tryz.prog 165 #[.int .i64 0,.int .i64 1] W fun e w'=>e = .returned (.complex .f64 (fl 0) (fl 1))∧Chg (fun _=>False) W w':=fun W=>Sw 0 1 W
   obtain ⟨x1,hx1⟩:∃ x,x=Ql N r:=⟨_,rfl⟩
   obtain ⟨x2,hx2⟩:∃ x,x=Ql H r:=⟨_,rfl⟩
   rw [← hx1] at hof1 ne1
   rw [← hx2] at hof2 ne2
   have HX1:=Lib.hid hx1
   have HX2:=Lib.hid hx2
   obtain ⟨y1,hy1⟩:∃ b,b=decide (x1≠0):=⟨_,rfl⟩
   obtain ⟨y2,hy2⟩:∃ b,b=decide (x2≠0):=⟨_,rfl⟩
   rw [← hy1] at ne1
   rw [← hy2] at ne2
   have HY1:=Lib.hid hy1
   have HY2:=Lib.hid hy2
   clear hxI hx p0 p1 hrl hx1 hx2 hy1 hy2
   go_wp2_with fail
   have hcd:Chg (fun _=>False) w ((wr.alloc (.cells #[.slice RA r.length rcap,.complex .f64 (fl n.toNat) (fl (-n).toNat)] 59)).drew):=(hcw.alloc _).drew
   have c0d:((wr.alloc (.cells #[.slice RA r.length rcap,.complex .f64 (fl n.toNat) (fl (-n).toNat)] 59)).drew).cell? ⟨wr.heap.size,0,none⟩=some (.slice RA r.length rcap):=by go_simp
   have cmd:=hcd.cell e4 (fun h=>h)
   refine Zm [2,8,10] (S:=fun wx=>wx.cell? ⟨wr.heap.size,0,none⟩=some (.slice RA r.length rcap)∧wx.cell? ⟨mb,11,none⟩=some (.slice HA H.length hcap2)) (by kernel_rfl) ⟨c0d,cmd⟩ (fun hHeld => ?_)
   refine Zb (i:=0) (some 26) (v := ?_) rfl rfl (by kernel_rfl) (by kernel_rfl) (by kernel_rfl) (fun _ _ _ h=>h) (Or.inl ⟨by rfl,?_⟩) ?_
   rotate_left
   ·(intro wx hSw; clear hSw; go_simp; try (with_reducible rfl))
   try simp only [Act.put,List.setIfInBounds_toArray,List.set_cons_zero,List.set_cons_succ]
   refine Zb (i:=1) (some 27) (v := ?_) rfl rfl (by kernel_rfl) (by kernel_rfl) (by kernel_rfl) (fun _ _ _ h=>h) (Or.inl ⟨by rfl,?_⟩) ?_
   rotate_left
   ·(intro wx hSw; clear hSw; go_simp; try (with_reducible rfl))
   try simp only [Act.put,List.setIfInBounds_toArray,List.set_cons_zero,List.set_cons_succ]
   refine Zp (i:=2) (some 28) (v := ?_) (by decide) rfl rfl (by kernel_rfl) (by kernel_rfl) (by kernel_rfl) (fun _ _ _ h=>h) (Or.inl ⟨by rfl,?_⟩) (by assumption) ?_
   rotate_left
   ·(intro wx hSw; go_simp; try (with_reducible rfl))
   try simp only [Act.put,List.setIfInBounds_toArray,List.set_cons_zero,List.set_cons_succ]
   refine Zb (i:=5) (some 31) (v := ?_) rfl rfl (by kernel_rfl) (by kernel_rfl) (by kernel_rfl) (fun _ _ _ h=>h) (Or.inl ⟨by rfl,?_⟩) ?_
   rotate_left
   ·(intro wx hSw; clear hSw; go_simp; try (with_reducible rfl))
   try simp only [Act.put,List.setIfInBounds_toArray,List.set_cons_zero,List.set_cons_succ]
   refine Zb (i:=6) (some 32) (v := ?_) rfl rfl (by kernel_rfl) (by kernel_rfl) (by kernel_rfl) (fun _ _ _ h=>h) (Or.inl ⟨by rfl,?_⟩) ?_
   rotate_left
   ·(intro wx hSw; clear hSw; go_simp; try (with_reducible rfl))
   try simp only [Act.put,List.setIfInBounds_toArray,List.set_cons_zero,List.set_cons_succ]
   refine Zb (i:=7) (some 33) (v := ?_) rfl rfl (by kernel_rfl) (by kernel_rfl) (by kernel_rfl) (fun _ _ _ h=>h) (Or.inl ⟨by rfl,?_⟩) ?_
   rotate_left
   ·(intro wx hSw; clear hSw; go_simp; try (with_reducible rfl))
   try simp only [Act.put,List.setIfInBounds_toArray,List.set_cons_zero,List.set_cons_succ]
   refine Zp (i:=8) (some 34) (v := ?_) (by decide) rfl rfl (by kernel_rfl) (by kernel_rfl) (by kernel_rfl) (fun _ _ _ h=>h) (Or.inl ⟨by rfl,?_⟩) (by assumption) ?_
   rotate_left
   ·(intro wx hSw; go_simp; try (with_reducible rfl))
   try simp only [Act.put,List.setIfInBounds_toArray,List.set_cons_zero,List.set_cons_succ]
   refine Zb (i:=9) (some 35) (v := ?_) rfl rfl (by kernel_rfl) (by kernel_rfl) (by kernel_rfl) (fun _ _ _ h=>h) (Or.inl ⟨by rfl,?_⟩) ?_
   rotate_left
   ·(intro wx hSw; clear hSw; go_simp; try (with_reducible rfl))
   try simp only [Act.put,List.setIfInBounds_toArray,List.set_cons_zero,List.set_cons_succ]
   refine Zp (i:=10) (some 36) (v := ?_) (by decide) rfl rfl (by kernel_rfl) (by kernel_rfl) (by kernel_rfl) (fun _ _ _ h=>h) (Or.inl ⟨by rfl,?_⟩) (by assumption) ?_
   rotate_left
   ·(intro wx hSw; go_simp; try (with_reducible rfl))
   try simp only [Act.put,List.setIfInBounds_toArray,List.set_cons_zero,List.set_cons_succ]
   refine Zj (rs:=[3]) (by kernel_rfl) (by simp) ?_
   refine Zf.cons rfl (fun K hK => ?_) Zf.nil
   go_simp
   refine (hof1 _ hcd).mono ?_
   rintro _ wA ⟨rfl,hA⟩
   have c0A:=hA.cell c0d (fun h=>h)
   have cmA:=hA.cell cmd (fun h=>h)
   have hSA:=And.intro c0A cmA
   have hcA:=hcd.trans hA fun _ _ h=>h
   refine hK.out _ _ ?_ ?_
   ·(intro _; exact hSA)
   clear hK K
   try simp only [Act.put,List.setIfInBounds_toArray,List.set_cons_zero,List.set_cons_succ]
   refine Zb (i:=4) (some 30) (v := ?_) rfl rfl (by kernel_rfl) (by kernel_rfl) (by kernel_rfl) (fun _ _ _ h=>h) (Or.inl ⟨by rfl,?_⟩) ?_
   rotate_left
   ·(intro wx hSw; clear hSw; go_simp; try (with_reducible rfl))
   try simp only [Act.put,List.setIfInBounds_toArray,List.set_cons_zero,List.set_cons_succ]
   refine Zj (rs:=[11]) (by kernel_rfl) (by simp) ?_
   refine Zf.cons rfl (fun K hK => ?_) Zf.nil
   go_simp
   refine (hof2 _ hcA).mono ?_
   rintro _ wB ⟨rfl,hB⟩
   have c0B:=hB.cell c0A (fun h=>h)
   have cmB:=hB.cell cmA (fun h=>h)
   have hSB:=And.intro c0B cmB
   have hcB:=hcA.trans hB fun _ _ h=>h
   refine hK.out _ _ ?_ ?_
   ·(intro _; exact hSB)
   clear hK K
   try simp only [Act.put,List.setIfInBounds_toArray,List.set_cons_zero,List.set_cons_succ]
   refine Zb (i:=12) (some 38) (v := ?_) rfl rfl (by kernel_rfl) (by kernel_rfl) (by kernel_rfl) (fun _ _ _ h=>h) (Or.inl ⟨by rfl,?_⟩) ?_
   rotate_left
   ·(intro wx hSw; clear hSw; go_simp; try (with_reducible rfl))
   try simp only [Act.put,List.setIfInBounds_toArray,List.set_cons_zero,List.set_cons_succ]
   refine Zb (i:=13) (some 9) (v := ?_) rfl rfl (by kernel_rfl) (by kernel_rfl) (by kernel_rfl) (fun _ _ _ h=>h) (Or.inl ⟨by rfl,?_⟩) ?_
   rotate_left
   ·(intro wx hSw; clear hSw; go_simp; try (with_reducible rfl))
   try simp only [Act.put,List.setIfInBounds_toArray,List.set_cons_zero,List.set_cons_succ]
   refine Zb (i:=14) (some 10) (v := ?_) rfl rfl (by kernel_rfl) (by kernel_rfl) (by kernel_rfl) (fun _ _ _ h=>h) (Or.inl ⟨by rfl,?_⟩) ?_
   rotate_left
   ·(intro wx hSw; clear hSw; go_simp; try (with_reducible rfl))
   try simp only [Act.put,List.setIfInBounds_toArray,List.set_cons_zero,List.set_cons_succ]
   refine Zw (by kernel_rfl) ?_ _
   have hcrB:Chg (fun _=>False) wr wB:=((((Chg.refl (fun _=>False) wr).alloc (.cells #[.slice RA r.length rcap,.complex .f64 (fl n.toNat) (fl (-n).toNat)] 59)).drew.trans hA fun _ _ h=>h).trans hB fun _ _ h=>h)
   cases y1 <;> cases y2
   ·go_wp2_with fail
    go_roundw
    case rel=>exact ⟨I+1,own,B,L0,c,ps,by omega,by go_num,rfl,Lib.hid ⟨HK.out.1,by have:=HK.out.2; omega⟩,Lib.hid (by rw [VL HX.out,VM HY1.out HX1.out HY2.out HX2.out,HM.out]; simp),Lib.hid (HO.out.chg hcrB fun _ _ h=>h),HN,Lib.hid (fun p hp=>(HP.out p hp).chg hcrB fun _ _ _ h=>h),hcB⟩
    case measure=>simp [intOf]; omega
   ·have hcE:=hcB.drew
    have c0E:(wB.drew).cell? ⟨wr.heap.size,0,none⟩=some (.slice RA r.length rcap):=c0B
    go_wp2_with fail
    refine Zm [2] (S:=fun wx=>wx.cell? ⟨wr.heap.size,0,none⟩=some (.slice RA r.length rcap)) (by kernel_rfl) c0E (fun hHeld => ?_)
    refine Zb (i:=0) (some 58) (v := ?_) rfl rfl (by kernel_rfl) (by kernel_rfl) (by kernel_rfl) (fun _ _ _ h=>h) (Or.inl ⟨by rfl,?_⟩) ?_
    rotate_left
    ·(intro wx hSw; clear hSw; go_simp; try (with_reducible rfl))
    try simp only [Act.put,List.setIfInBounds_toArray,List.set_cons_zero,List.set_cons_succ]
    refine Zb (i:=1) (some 59) (v := ?_) rfl rfl (by kernel_rfl) (by kernel_rfl) (by kernel_rfl) (fun _ _ _ h=>h) (Or.inl ⟨by rfl,?_⟩) ?_
    rotate_left
    ·(intro wx hSw; clear hSw; go_simp; try (with_reducible rfl))
    try simp only [Act.put,List.setIfInBounds_toArray,List.set_cons_zero,List.set_cons_succ]
    refine Zp (i:=2) (some 60) (v := ?_) (by decide) rfl rfl (by kernel_rfl) (by kernel_rfl) (by kernel_rfl) (fun _ _ _ h=>h) (Or.inl ⟨by rfl,?_⟩) (by assumption) ?_
    rotate_left
    ·(intro wx hSw; go_simp; try (with_reducible rfl))
    try simp only [Act.put,List.setIfInBounds_toArray,List.set_cons_zero,List.set_cons_succ]
    refine Zj (rs:=[3]) (by kernel_rfl) (by simp) ?_
    refine Zf.cons rfl (fun K hK => ?_) Zf.nil
    go_simp
    refine (htof01 _).mono ?_
    rintro _ wC ⟨rfl,hC⟩
    have c0C:=hC.cell c0E (fun h=>h)
    have hcC:=hcE.trans hC fun _ _ h=>h
    refine hK.out _ _ ?_ ?_
    ·(intro _; exact c0C)
    clear hK K
    try simp only [Act.put,List.setIfInBounds_toArray,List.set_cons_zero,List.set_cons_succ]
    refine Zb (i:=4) (some 62) (v := ?_) rfl rfl (by kernel_rfl) (by kernel_rfl) (by kernel_rfl) (fun _ _ _ h=>h) (Or.inl ⟨by rfl,?_⟩) ?_
    rotate_left
    ·(intro wx hSw; clear hSw; go_simp; try (with_reducible rfl))
    try simp only [Act.put,List.setIfInBounds_toArray,List.set_cons_zero,List.set_cons_succ]
    refine Zj (rs:=[5]) (by kernel_rfl) (by simp) ?_
    refine Zf.cons rfl (fun K hK => ?_) Zf.nil
    go_simp
    have c0D:(wC.alloc (.cells #[.slice RA r.length rcap,.complex .f64 (fl 0) (fl 1)] 59)).cell? ⟨wr.heap.size,0,none⟩=some (.slice RA r.length rcap):=((Chg.refl (fun _=>False) wC).alloc _).cell c0C (fun h=>h)
    refine hK.out _ _ ?_ ?_
    ·(intro _; exact c0D)
    clear hK K
    try simp only [Act.put,List.setIfInBounds_toArray,List.set_cons_zero,List.set_cons_succ]
    refine Zj (rs:=[6]) (by kernel_rfl) (by simp) ?_
    refine Zf.cons rfl (fun K hK => ?_) Zf.nil
    have H1:=Lib.hid (KS wC (.slice RA r.length rcap) (.complex .f64 (fl 0) (fl 1)) 59)
    have hcrC:Chg (fun _=>False) wr wC:=(((((Chg.refl (fun _=>False) wr).alloc (.cells #[.slice RA r.length rcap,.complex .f64 (fl n.toNat) (fl (-n).toNat)] 59)).drew.trans hA fun _ _ h=>h).trans hB fun _ _ h=>h).drew).trans hC fun _ _ h=>h
    have HOW2:=Lib.hid (HO.out.chg (hcrC.alloc (.cells #[.slice RA r.length rcap,.complex .f64 (fl 0) (fl 1)] 59)) fun _ _ h=>h)
    refine Xw rfl _ _ 45 45 rfl 59 2 40 Kh own _ L0 c 1 (ZC ps) [.slice RA r.length rcap,.complex .f64 (fl 0) (fl 1)] _ rfl rfl HOW2.out (Kt.slice H1.out) (by simp [Value.oneCell']) (L0+1) rfl ?_ ?_ ?_
    ·have:=HL.out; have:=HK.out; omega
    ·have:=HL.out; have:=HK.out; omega
    intro own' B' c' w2 hown hor hchg
    have HO3:=Lib.hid hown
    clear hown
    have hnr:∀ b,own=some b→b≠wr.heap.size:=fun b hb=>by have:=HO.out.lt hb; omega
    have c0F:=hchg.cell c0D (fun h=>hnr _ h rfl)
    refine hK.out _ _ ?_ ?_
    ·(intro _; exact c0F)
    clear hK K
    try simp only [Act.put,List.setIfInBounds_toArray,List.set_cons_zero,List.set_cons_succ]
    refine Zb (i:=7) (some 5) (v := ?_) rfl rfl (by kernel_rfl) (by kernel_rfl) (by kernel_rfl) (fun _ _ _ h=>h) (Or.inl ⟨by rfl,?_⟩) ?_
    rotate_left
    ·(intro wx hSw; clear hSw; go_simp; try (with_reducible rfl))
    try simp only [Act.put,List.setIfInBounds_toArray,List.set_cons_zero,List.set_cons_succ]
    refine Zw (by kernel_rfl) ?_ _
    go_wp2_with fail
    go_roundw
    case rel =>
     have hcw4:Chg (fun _=>False) w w2:=(hcC.alloc _).trans hchg fun i hi hg=>by have:=HN.out i hg; omega
     have hcr2:Chg (fun b=>own=some b) wr w2:=((hcrC.alloc _).mono (T':=fun b=>own=some b) fun _ _ h=>h.elim).trans hchg fun _ _ h=>h
     refine ⟨I+1,own',B',L0+1,c',ps++[(.slice RA r.length rcap,⟨r,0,1⟩)],by omega,by go_num,by first | rfl | (congr 1),Lib.hid ⟨by rw [List.length_append,HK.out.1]; rfl,by have:=HK.out.2; omega⟩,Lib.hid ?_,Lib.hid (by rw [Qe]; exact HO3.out),Lib.hid fun g hg => ?_,Lib.hid fun p hp => ?_,hcw4⟩
     ·rw [VL HX.out,VM HY1.out HX1.out HY2.out HX2.out,List.map_append,HM.out]
      simp [Zz,ZI]
     ·rcases hor with h0 | h0
      ·exact HN.out g (h0▸hg)
      ·rw [h0] at hg
       have:=hcC.size
       simp at hg
       omega
     ·rcases List.mem_append.1 hp with hp | hp
      ·exact (HP.out p hp).chg hcr2 fun b hb _ he=>by have:=HN.out b he; omega
      ·rw [List.mem_singleton.1 hp]
       exact ⟨(HROW.out.mono (G:=fun b=>F b∧b<w.heap.size) fun b hb hl=>⟨hb,hl⟩).Zi hcw4,by simp,by simp,HRL.out⟩
    case measure=>simp [intOf]; omega
   ·have hcE:=hcB.drew
    have c0E:(wB.drew).cell? ⟨wr.heap.size,0,none⟩=some (.slice RA r.length rcap):=c0B
    go_wp2_with fail
    refine Zm [2] (S:=fun wx=>wx.cell? ⟨wr.heap.size,0,none⟩=some (.slice RA r.length rcap)) (by kernel_rfl) c0E (fun hHeld => ?_)
    refine Zb (i:=0) (some 45) (v := ?_) rfl rfl (by kernel_rfl) (by kernel_rfl) (by kernel_rfl) (fun _ _ _ h=>h) (Or.inl ⟨by rfl,?_⟩) ?_
    rotate_left
    ·(intro wx hSw; clear hSw; go_simp; try (with_reducible rfl))
    try simp only [Act.put,List.setIfInBounds_toArray,List.set_cons_zero,List.set_cons_succ]
    refine Zb (i:=1) (some 46) (v := ?_) rfl rfl (by kernel_rfl) (by kernel_rfl) (by kernel_rfl) (fun _ _ _ h=>h) (Or.inl ⟨by rfl,?_⟩) ?_
    rotate_left
    ·(intro wx hSw; clear hSw; go_simp; try (with_reducible rfl))
    try simp only [Act.put,List.setIfInBounds_toArray,List.set_cons_zero,List.set_cons_succ]
    refine Zp (i:=2) (some 47) (v := ?_) (by decide) rfl rfl (by kernel_rfl) (by kernel_rfl) (by kernel_rfl) (fun _ _ _ h=>h) (Or.inl ⟨by rfl,?_⟩) (by assumption) ?_
    rotate_left
    ·(intro wx hSw; go_simp; try (with_reducible rfl))
    try simp only [Act.put,List.setIfInBounds_toArray,List.set_cons_zero,List.set_cons_succ]
    refine Zj (rs:=[3]) (by kernel_rfl) (by simp) ?_
    refine Zf.cons rfl (fun K hK => ?_) Zf.nil
    go_simp
    refine (htof10 _).mono ?_
    rintro _ wC ⟨rfl,hC⟩
    have c0C:=hC.cell c0E (fun h=>h)
    have hcC:=hcE.trans hC fun _ _ h=>h
    refine hK.out _ _ ?_ ?_
    ·(intro _; exact c0C)
    clear hK K
    try simp only [Act.put,List.setIfInBounds_toArray,List.set_cons_zero,List.set_cons_succ]
    refine Zb (i:=4) (some 49) (v := ?_) rfl rfl (by kernel_rfl) (by kernel_rfl) (by kernel_rfl) (fun _ _ _ h=>h) (Or.inl ⟨by rfl,?_⟩) ?_
    rotate_left
    ·(intro wx hSw; clear hSw; go_simp; try (with_reducible rfl))
    try simp only [Act.put,List.setIfInBounds_toArray,List.set_cons_zero,List.set_cons_succ]
    refine Zj (rs:=[5]) (by kernel_rfl) (by simp) ?_
    refine Zf.cons rfl (fun K hK => ?_) Zf.nil
    go_simp
    have c0D:(wC.alloc (.cells #[.slice RA r.length rcap,.complex .f64 (fl 1) (fl 0)] 59)).cell? ⟨wr.heap.size,0,none⟩=some (.slice RA r.length rcap):=((Chg.refl (fun _=>False) wC).alloc _).cell c0C (fun h=>h)
    refine hK.out _ _ ?_ ?_
    ·(intro _; exact c0D)
    clear hK K
    try simp only [Act.put,List.setIfInBounds_toArray,List.set_cons_zero,List.set_cons_succ]
    refine Zj (rs:=[6]) (by kernel_rfl) (by simp) ?_
    refine Zf.cons rfl (fun K hK => ?_) Zf.nil
    have H1:=Lib.hid (KS wC (.slice RA r.length rcap) (.complex .f64 (fl 1) (fl 0)) 59)
    have hcrC:Chg (fun _=>False) wr wC:=(((((Chg.refl (fun _=>False) wr).alloc (.cells #[.slice RA r.length rcap,.complex .f64 (fl n.toNat) (fl (-n).toNat)] 59)).drew.trans hA fun _ _ h=>h).trans hB fun _ _ h=>h).drew).trans hC fun _ _ h=>h
    have HOW2:=Lib.hid (HO.out.chg (hcrC.alloc (.cells #[.slice RA r.length rcap,.complex .f64 (fl 1) (fl 0)] 59)) fun _ _ h=>h)
    refine Xw rfl _ _ 45 45 rfl 59 2 40 Kh own _ L0 c 1 (ZC ps) [.slice RA r.length rcap,.complex .f64 (fl 1) (fl 0)] _ rfl rfl HOW2.out (Kt.slice H1.out) (by simp [Value.oneCell']) (L0+1) rfl ?_ ?_ ?_
    ·have:=HL.out; have:=HK.out; omega
    ·have:=HL.out; have:=HK.out; omega
    intro own' B' c' w2 hown hor hchg
    have HO3:=Lib.hid hown
    clear hown
    have hnr:∀ b,own=some b→b≠wr.heap.size:=fun b hb=>by have:=HO.out.lt hb; omega
    have c0F:=hchg.cell c0D (fun h=>hnr _ h rfl)
    refine hK.out _ _ ?_ ?_
    ·(intro _; exact c0F)
    clear hK K
    try simp only [Act.put,List.setIfInBounds_toArray,List.set_cons_zero,List.set_cons_succ]
    refine Zb (i:=7) (some 5) (v := ?_) rfl rfl (by kernel_rfl) (by kernel_rfl) (by kernel_rfl) (fun _ _ _ h=>h) (Or.inl ⟨by rfl,?_⟩) ?_
    rotate_left
    ·(intro wx hSw; clear hSw; go_simp; try (with_reducible rfl))
    try simp only [Act.put,List.setIfInBounds_toArray,List.set_cons_zero,List.set_cons_succ]
    refine Zw (by kernel_rfl) ?_ _
    go_wp2_with fail
    go_roundw
    case rel =>
     have hcw4:Chg (fun _=>False) w w2:=(hcC.alloc _).trans hchg fun i hi hg=>by have:=HN.out i hg; omega
     have hcr2:Chg (fun b=>own=some b) wr w2:=((hcrC.alloc _).mono (T':=fun b=>own=some b) fun _ _ h=>h.elim).trans hchg fun _ _ h=>h
     refine ⟨I+1,own',B',L0+1,c',ps++[(.slice RA r.length rcap,⟨r,1,0⟩)],by omega,by go_num,by first | rfl | (congr 1),Lib.hid ⟨by rw [List.length_append,HK.out.1]; rfl,by have:=HK.out.2; omega⟩,Lib.hid ?_,Lib.hid (by rw [Qe]; exact HO3.out),Lib.hid fun g hg => ?_,Lib.hid fun p hp => ?_,hcw4⟩
     ·rw [VL HX.out,VM HY1.out HX1.out HY2.out HX2.out,List.map_append,HM.out]
      simp [Zz,ZI]
     ·rcases hor with h0 | h0
      ·exact HN.out g (h0▸hg)
      ·rw [h0] at hg
       have:=hcC.size
       simp at hg
       omega
     ·rcases List.mem_append.1 hp with hp | hp
      ·exact (HP.out p hp).chg hcr2 fun b hb _ he=>by have:=HN.out b he; omega
      ·rw [List.mem_singleton.1 hp]
       exact ⟨(HROW.out.mono (G:=fun b=>F b∧b<w.heap.size) fun b hb hl=>⟨hb,hl⟩).Zi hcw4,by simp,by simp,HRL.out⟩
    case measure=>simp [intOf]; omega
   ·go_wp2_with fail
    go_roundw
    case rel=>exact ⟨I+1,own,B,L0,c,ps,by omega,by go_num,rfl,Lib.hid ⟨HK.out.1,by have:=HK.out.2; omega⟩,Lib.hid (by rw [VL HX.out,VM HY1.out HX1.out HY2.out HX2.out,HM.out]; simp),Lib.hid (HO.out.chg hcrB fun _ _ h=>h),HN,Lib.hid (fun p hp=>(HP.out p hp).chg hcrB fun _ _ _ h=>h),hcB⟩
    case measure=>simp [intOf]; omega
  ·have hge:¬ ((I:Int)<(D.length:Int)):=by omega
   go_wp2_with fail
   go_ret
   have e:I=D.length:=by omega
   have hm:=HM.out
   rw [e,List.take_length] at hm
   have hs:=Zt.Rf (F:=fun b=>new w b∨F b∧b<w.heap.size) (HO.out.cs.mono fun g hg _ => .inl (HN.out g hg)) HK.out.1 HO.out.fits HO.out.Kg fun p hp=>(HP.out p hp).mono fun b hb _ => .inr hb
   rw [hm] at hs
   exact ⟨_,rfl,hs,hcw⟩
end Go.Proofs.YtheflbaejhlboaaGreatDoor
namespace Go.Proofs.YtheflbaejhlboaaGreatDoor
open Go.RowKit
theorem FN (w:World) (x y z:Value) (t:TypeId):CsK (w.alloc (.cells #[x,y,z] t)) (fun b=>b=w.heap.size) 3 (some ⟨w.heap.size,0,none⟩) 1 [x,y,z]:=by
 refine ⟨rfl,fun _=>⟨w.heap.size,0,rfl,rfl,by simp,fun j u hu => ?_⟩⟩
 have h:=heap_alloc_new w (.cells #[x,y,z] t)
 rw [Nat.zero_add,cell_of_row _ _ j _ t (0,0) h]
 simpa using hu
theorem Ee {v:Vl} (h:v.right=true):v.s.length≤9223372036854775807:=by
 unfold Vl.right at h
 split at h
 ·have:v.s=[]:=by simpa using h
  rw [this]; simp
 ·split at h
  ·simp at h; omega
  ·cases h
theorem Zd2 {v:Vl} (h:v.right=true):Zl [v]=true:=by
 unfold Zl
 simp [h]
theorem N1 (f:Itm→List Vl):∀ l:List Itm,ZJ (l.map fun x=>⟨f x,x.a,x.b⟩)=ZJ l
 | []=>rfl
 | x::l=>by
  show ZJ (⟨f x,x.a,x.b⟩::l.map fun x=>⟨f x,x.a,x.b⟩)=ZJ (x::l)
  rw [ZJ,ZJ,N1 f l]
set_option maxHeartbeats 4000000 in
set_option maxRecDepth 100000 in
theorem Cd {F:Nat→Prop} {w:World} {d c p0 p1 p3 p4 p5 p6 p7:Value} {k0 n2:Int} {s1:ByteArray} {xa:Option Addr} {xn xc:Nat} {l:List Itm} {eb eo ec:Nat} (f:List Vl→Vl) (hd:Zt F w d l)
  (e0:w.cell? ⟨eb,eo,none⟩=some (.int .i64 k0)) (e1:w.cell? ⟨eb,eo+1,none⟩=some (.string s1)) (e2:w.cell? ⟨eb,eo+2,none⟩=some (.int .i64 n2)) (e3:w.cell? ⟨eb,eo+3,none⟩=some (.slice xa xn xc))
  (hev:∀ x∈l,∀ rv W,Zq F w rv x.row→Chg (fun _=>False) w W→Calls Tryz.prog 293 #[.agg #[.int .i64 k0,.string s1,.int .i64 n2,.slice xa xn xc],c,rv] W fun e w'=>e = .returned (.tuple #[(f x.row).val,.int .i64 0])∧Chg (fun _=>False) W w')
  (hfr:∀ x∈l,(f x.row).right=true) (hw:ZJ l≤1125899906842624) (hlen:l.length≤4096) :
  Calls Tryz.prog 179 #[.agg #[p0,p1,.slice (some ⟨eb,eo,none⟩) 1 ec,p3,p4,p5,p6,p7],c,d] w (Made w (l.map fun x=>⟨[f x.row],x.a,x.b⟩)):=by
 obtain ⟨A,cap,rfl,hn,hcap,hat⟩:=hd
 have HAT:=Lib.hid hat
 have HL:=Lib.hid hlen
 have HEV:=Lib.hid hev
 clear hat hlen hev
 go_enter Tryz.func179,Tryz.ntmps179
 go_wp2_with fail
 obtain ⟨w0,hw0⟩:∃ x,x=w.alloc (.cells #[p0,p1,.slice (some ⟨eb,eo,none⟩) 1 ec,p3,p4,p5,p6,p7] 120):=⟨_,rfl⟩
 have hcz:Chg (fun _=>False) w w0:=hw0▸(Chg.refl _ w).alloc _
 have b2:w0.cell? ⟨w.heap.size,2,none⟩=some (.slice (some ⟨eb,eo,none⟩) 1 ec):=by rw [hw0]; go_simp
 rw [← hw0]
 clear hw0
 have hws:w.heap.size<w0.heap.size:=World.block_lt_of_cell? w0 _ b2
 go_loopw [18,8] (fun i s wr=>∃ (I:Nat) (own:Option Nat) (B:Option Addr) (cc:Nat) (ps:List PI),I≤l.length∧i = .int .i64 I∧s = .slice B I cc∧Hid (ps.map (·.2)=(l.take I).map fun x=>⟨[f x.row],x.a,x.b⟩)∧Hid (QE wr 59 2 own B I cc (ZC ps))∧Hid (∀ g,own=some g→w0.heap.size≤g)∧Hid (∀ p∈ps,POk (fun b=>w.heap.size≤b∧own≠some b) wr p)∧Chg (fun _=>False) w0 wr) (fun i _ _=>l.length-(intOf i).toNat)
 case atStart=>exact ⟨0,none,none,0,[],Nat.zero_le _,rfl,rfl,Lib.hid (by simp),Lib.hid (QE.Ws _ _ _ _),Lib.hid (fun g h=>by cases h),Lib.hid (fun p h=>by cases h),Chg.refl _ _⟩
 case round =>
  obtain ⟨I,own,B,cc,ps,hI,rfl,rfl,HM,HO,HN,HP,hcw0⟩:=hrel
  have hcw:=hcz.trans hcw0 fun _ _ h=>h
  have b2r:=hcw0.cell b2 (fun h=>h)
  by_cases hlt:I<l.length
  ·obtain ⟨b,off,rfl,_,hb,hx⟩:=HAT.out (by omega)
   obtain ⟨x,hxI⟩:∃ x,l[I]? = some x:=⟨_,List.getElem?_eq_getElem hlt⟩
   obtain ⟨⟨rv,z0,hrow⟩,z1,ha,hbb,hrl⟩:=hx I x hxI
   have q0:=hcw.cell z0 (fun h=>h)
   have q1:=hcw.cell z1 (fun h=>h)
   have hst:=Z5
   unfold tc at q1 z1
   have HX:=Lib.hid hxI
   have HROW:=Lib.hid hrow
   obtain ⟨RA,rcap,rfl,_⟩:=hrow
   clear hx z0 z1 hxI
   have hda:Chg (fun _=>False) wr (wr.alloc (.cells #[.slice RA x.row.length rcap,.complex .f64 (fl x.a) (fl x.b)] 59)):=(Chg.refl _ wr).alloc _
   have b2x:=hda.cell b2r (fun h=>h)
   have hcall:=fun W (hW:Chg (fun _=>False) w W)=>HEV.out x (List.mem_of_getElem? HX.out) _ W HROW.out hW
   go_wp2_with fail
   obtain ⟨w1,hw1⟩:∃ y,y=wr.alloc (.cells #[.slice RA x.row.length rcap,.complex .f64 (fl x.a) (fl x.b)] 59):=⟨_,rfl⟩
   rw [← hw1] at hda b2x ⊢
   have i0:w1.cell? ⟨wr.heap.size,0,none⟩=some (.slice RA x.row.length rcap):=by rw [hw1]; go_simp
   have i1:w1.cell? ⟨wr.heap.size,1,none⟩=some (.complex .f64 (fl x.a) (fl x.b)):=by rw [hw1]; go_simp
   have hcw1:=hcw.trans hda fun _ _ h=>h
   clear hw1
   obtain ⟨wp,hwp⟩:∃ y,y=wr:=⟨_,rfl⟩
   subst hwp
   go_loopw [25,11] (fun i s wq=>Chg (fun _=>False) w1 wq∧∃ ro RB rc,Hid (∀ g,ro=some g→w1.heap.size≤g)∧((i = .int .i64 0∧∃ m:Nat,s = .slice RB m rc∧Hid (m=0)∧Hid (QE wq 55 3 ro RB m rc []))∨(i = .int .i64 1∧s = .slice RB 1 rc∧Hid (QE wq 55 3 ro RB 1 rc (f x.row).cells)))) (fun i _ _=>1-(intOf i).toNat)
   case atStart=>exact ⟨Chg.refl _ _,none,none,0,Lib.hid (fun g h=>by cases h),.inl ⟨rfl,0,rfl,Lib.hid rfl,Lib.hid (QE.Ws _ _ _ _)⟩⟩
   case round =>
    obtain ⟨hq,ro,RB,rc,HRN,⟨rfl,m,rfl,HM0,HR⟩ | ⟨rfl,rfl,HR⟩⟩:=hrel
    ·have hcq:=hcw1.trans hq fun _ _ h=>h
     have f0:=hcq.cell e0 (fun h=>h)
     have f1:=hcq.cell e1 (fun h=>h)
     have f2:=hcq.cell e2 (fun h=>h)
     have f3:=hcq.cell e3 (fun h=>h)
     have j0:=hq.cell i0 (fun h=>h)
     have hdb:Chg (fun _=>False) wr (wr.alloc (.cells #[.int .i64 k0,.string s1,.int .i64 n2,.slice xa xn xc] 369)):=(Chg.refl _ wr).alloc _
     have j0x:=hdb.cell j0 (fun h=>h)
     go_wp2_with fail
     refine (hcall _ (hcq.trans hdb fun _ _ h=>h)).mono ?_
     rintro _ w2 ⟨rfl,hc2⟩
     unfold Vl.val
     have hB:w2.heap.size+1=(w2.alloc (.cells #[.int .i64 (f x.row).k,.int .i64 (f x.row).n,.string (str (f x.row).s)] 55)).heap.size:=(Array.size_push _).symm
     have H3:Hid (CsK ((w2.alloc (.cells #[.int .i64 (f x.row).k,.int .i64 (f x.row).n,.string (str (f x.row).s)] 55)).alloc (.cells #[.int .i64 (f x.row).k,.int .i64 (f x.row).n,.string (str (f x.row).s)] 55)) (fun b=>b=w2.heap.size+1) 3 (some ⟨w2.heap.size+1,0,none⟩) 1 (f x.row).cells):=Lib.hid (by rw [hB]; exact FN (w2.alloc (.cells #[.int .i64 (f x.row).k,.int .i64 (f x.row).n,.string (str (f x.row).s)] 55)) _ _ _ _)
     clear hB
     have hc3:Chg (fun _=>False) wr (((w2.alloc (.cells #[.int .i64 (f x.row).k,.int .i64 (f x.row).n,.string (str (f x.row).s)] 55)).alloc (.cells #[.int .i64 (f x.row).k,.int .i64 (f x.row).n,.string (str (f x.row).s)] 55))):=(((hdb.trans hc2 fun _ _ h=>h).alloc _).alloc _)
     have HR2:=Lib.hid (HR.out.chg hc3 fun _ _ h=>h)
     go_wp2_with (at_builtin; go_loud (refine ZK rfl _ _ 39 39 rfl 55 3 32 F7 ro RB m rc 1 [] (f x.row).cells _ rfl rfl HR2.out (Kt.slice H3.out) (by simp [Vl.cells,Value.oneCell']) 1 (by have:=HM0.out; omega) (by have:=HM0.out; omega) (by have:=HM0.out; omega) ?_))
     intro ro' RB' rc' w3 hown hor hchg
     have HR3:=Lib.hid hown
     clear hown
     go_wp2_with fail
     go_roundw
     case rel =>
      have hcr3:Chg (fun _=>False) w1 w3:=(hq.trans hc3 fun _ _ h=>h).trans hchg fun i hi hg=>by have:=HRN.out i hg; omega
      refine ⟨hcr3,ro',RB',rc',Lib.hid fun g hg => ?_,.inr ⟨rfl,rfl,HR3⟩⟩
      rcases hor with h0 | h0
      ·exact HRN.out g (h0▸hg)
      ·rw [h0] at hg
       injection hg with hg
       have h1:=hq.size
       have h2:=hc3.size
       have h3:∀ (W:World) (o:Obj),(W.alloc o).heap.size=W.heap.size+1:=fun W o=>Array.size_push _
       rw [h3,h3] at h2
       omega
     case measure=>simp [intOf]
    ·have hcq:=hcw1.trans hq fun _ _ h=>h
     have i0q:=hq.cell i0 (fun h=>h)
     have i1q:=hq.cell i1 (fun h=>h)
     have HWQ:=Lib.hid hq
     have H1:=Lib.hid (KS wr (.slice RB 1 rc) (.complex .f64 (fl x.a) (fl x.b)) 59)
     have hpr:Chg (fun _=>False) wp (wr.alloc (.cells #[.slice RB 1 rc,.complex .f64 (fl x.a) (fl x.b)] 59)):=(hda.trans hq fun _ _ h=>h).alloc _
     have HO2:=Lib.hid (HO.out.chg hpr fun _ _ h=>h)
     have HR1:=Lib.hid (show Zq (fun b=>w1.heap.size≤b∧b<wr.heap.size) wr (.slice RB 1 rc) [f x.row] from (Zq.F8 (r:=[f x.row]) (F:=fun b=>ro=some b) (by simpa [QR] using HR.out) (fun g hg=>hg) (fun y hy=>by rw [List.mem_singleton.1 hy]; exact Ee (hfr x (List.mem_of_getElem? HX.out)))).mono fun b hb hlt=>⟨HRN.out b hb,hlt⟩)
     go_wp2_with (at_builtin; refine ZK rfl _ _ 44 44 rfl 59 2 40 FU own B I cc 1 (ZC ps) [.slice RB 1 rc,.complex .f64 (fl x.a) (fl x.b)] _ rfl rfl HO2.out (Kt.slice H1.out) (by simp [Value.oneCell']) (I+1) rfl (by have:=HL.out; omega) (by have:=HL.out; omega) ?_)
     intro own' B' c' w3 hown hor hchg
     have HO3:=Lib.hid hown
     clear hown
     have hsz1:(wr.alloc (.cells #[.slice RB 1 rc,.complex .f64 (fl x.a) (fl x.b)] 59)).heap.size=wr.heap.size+1:=Array.size_push _
     have hnr:∀ b,own=some b→b<wp.heap.size:=fun b hb=>HO.out.lt hb
     have hb3:=(hpr.cell b2r (fun h=>h))
     have hb4:=hchg.cell hb3 (fun h=>by have:=HN.out _ h; simp at this; omega)
     go_wp2_with fail
     go_roundw
     case rel =>
      have hszp:=hpr.size
      have hsz0:=hcw0.size
      have hcr:Chg (fun b=>own=some b) wp w3:=(hpr.mono (T':=fun b=>own=some b) fun _ _ h=>h.elim).trans hchg fun _ _ h=>h
      have hcw4:Chg (fun _=>False) w0 w3:=hcw0.trans hcr fun i hi hg=>by have:=HN.out i hg; omega
      refine ⟨I+1,own',B',c',ps++[(.slice RB 1 rc,⟨[f x.row],x.a,x.b⟩)],by omega,by go_num,rfl,Lib.hid ?_,Lib.hid (by rw [Qe]; exact HO3.out),Lib.hid fun g hg => ?_,Lib.hid fun p hp => ?_,hcw4⟩
      ·rw [List.map_append,HM.out,List.take_add_one,HX.out]; simp
      ·rcases hor with h0 | h0
       ·exact HN.out g (h0▸hg)
       ·rw [h0] at hg
        injection hg with hg
        omega
      ·have hlt3:∀ b,b<wr.heap.size→own≠some b→own'≠some b:=fun b hb hne=>by
        rcases hor with h0 | h0
        ·rw [h0]; exact hne
        ·rw [h0]; intro h1; injection h1 with h1; omega
       rcases List.mem_append.1 hp with hp | hp
       ·exact (((HP.out p hp).mono (G:=fun b=>(w.heap.size≤b∧own≠some b)∧own'≠some b) fun b hb hlt=>⟨hb,hlt3 b (by have:=hda.size; have:=hq.size; omega) hb.2⟩).chg hcr fun b hb _ he=>hb.1.2 he).mono fun b hb _=>⟨hb.1.1,hb.2⟩
       ·rw [List.mem_singleton.1 hp]
        refine ⟨?_,ha,hbb,by simp⟩
        have hd1:Chg (fun b=>own=some b) wr w3:=((Chg.refl (fun _=>False) wr).alloc (.cells #[.slice RB 1 rc,.complex .f64 (fl x.a) (fl x.b)] 59) |>.mono (T':=fun b=>own=some b) fun _ _ h=>h.elim).trans hchg fun _ _ h=>h
        have hw1:=hda.size
        refine ((HR1.out.mono (G:=fun b=>(w.heap.size≤b∧own≠some b)∧own'≠some b) fun b hb hlt => ?_).chg hd1 fun b hb _ he=>hb.1.2 he).mono fun b hb _=>⟨hb.1.1,hb.2⟩
        have hne:own≠some b:=fun he=>by have:=hnr b he; omega
        exact ⟨⟨by omega,hne⟩,hlt3 b hb.2 hne⟩
     case measure=>simp [intOf]; omega
  ·have hge:¬ ((I:Int)<(l.length:Int)):=by omega
   have e:I=l.length:=by omega
   have hm:=HM.out
   rw [e,List.take_length] at hm
   have hps:ps.length=l.length:=by have:=congrArg List.length hm; simpa using this
   have hset:Zt (new w) wr (.slice B I cc) (ps.map (·.2)):=Zt.Rf (HO.out.cs.mono fun g hg _=>by have:=HN.out g hg; show w.heap.size≤g; omega) (by omega) HO.out.fits HO.out.Kg fun p hp=>(HP.out p hp).mono fun b hb _=>hb.1
   rw [hm,e] at hset
   have hmk:=Ml hset (by rw [List.length_map]; exact HL.out) (fun y hy=>by obtain ⟨x,hx,rfl⟩:=List.mem_map.1 hy; exact Zd2 (hfr x hx)) (by rw [N1]; exact hw)
   have hcr:=hcw
   clear hset
   go_wp2_with fail
   refine hmk.mono ?_
   rintro _ w2 ⟨u2,S,rfl,hz,hnf,hsl,hset2,hc2⟩
   go_wp2_with fail
   go_ret2
   exact ⟨u2,S,rfl,hz,hnf,hsl,hset2.mono fun b hb _=>by have h:wr.heap.size≤b:=hb; have:=hcr.size; show w.heap.size≤b; omega,hcr.trans hc2 fun _ _ h=>h⟩
end Go.Proofs.YtheflbaejhlboaaGreatDoor
namespace Go.Proofs.YtheflbaejhlboaaGreatDoor
open Go.RowKit
def Fy (w:World) (v:Value) (nm:List UInt8):Prop :=
 ∃ b off n cap,v = .slice (some ⟨b,off,none⟩) n cap∧0<n∧n≤1000000∧w.cell? ⟨b,off,none⟩=some (.string (str nm))∧∃ k:Int,w.cell? ⟨b,off+1,none⟩=some (.int .i64 k)
theorem Fy.Zi {w w':World} {v:Value} {nm:List UInt8} (h:Fy w v nm) (hc:Chg (fun _=>False) w w'):Fy w' v nm:=by
 obtain ⟨b,off,n,cap,rfl,h0,h1,h2,k,h3⟩:=h
 exact ⟨b,off,n,cap,rfl,h0,h1,hc.cell h2 fun h=>h,k,hc.cell h3 fun h=>h⟩
set_option maxHeartbeats 4000000 in
theorem F0 {w:World} {nm:List UInt8} {k:Int} {B:Nat} (hB:w.cell? ⟨B,0,none⟩=some (.string (str nm))) :
  Calls Tryz.prog 138 #[.agg #[.string (str nm),.int .i64 k],.pointer (some ⟨B,0,none⟩)] w fun e w'=>e = .returned (.bool true)∧Chg (fun _=>False) w w':=by
 have hlt:=World.block_lt_of_cell? w _ hB
 have h1:=KQ nm
 go_enter Tryz.func138,Tryz.ntmps138
 go_wp2_with fail
 go_ret
 exact ⟨by simp,(Chg.refl _ w).alloc _⟩
set_option maxHeartbeats 4000000 in
theorem Mo {w:World} {v:Value} {nm:List UInt8} {B:Nat} (h:Fy w v nm) (hB:w.cell? ⟨B,0,none⟩=some (.string (str nm))) :
  Calls Tryz.prog 137 #[v,.func (.func 138) #[] #[.pointer (some ⟨B,0,none⟩)]] w fun e w'=>e = .returned (.int .i64 0)∧Chg (fun _=>False) w w':=by
 obtain ⟨b,off,n,cap,rfl,h0,h1,h2,k,h3⟩:=h
 have hf:=fun (k:Int) w1 (hc:Chg (fun _=>False) w w1)=>F0 (k:=k) (hc.cell hB fun h=>h)
 go_enter Tryz.func137,Tryz.ntmps137
 go_wp2_with fail
 go_loopw [8] (fun i wr=>i = .int .i64 0∧Chg (fun _=>False) w wr) (fun i _=>0)
 case atStart=>exact ⟨rfl,Chg.refl _ _⟩
 case round =>
  obtain ⟨rfl,hcw⟩:=hrel
  have g1:=hcw.cell h2 (fun h=>h)
  have g2:=hcw.cell h3 (fun h=>h)
  have hlt:(0:Int)<(n:Int):=by omega
  go_wp2_with fail
  refine (hf k _ hcw).mono ?_
  rintro _ w1 ⟨rfl,hc⟩
  go_wp2_with fail
  go_ret
  exact ⟨rfl,hcw.trans hc fun _ _ h=>h⟩
set_option maxHeartbeats 4000000 in
theorem V8 {w:World} {v:Value} {nm:List UInt8} (h:Fy w v nm) :
  Calls Tryz.prog 87 #[v,.string (str nm)] w fun e w'=>e = .returned (.tuple #[.int .i64 0,.bool true])∧Chg (fun _=>False) w w':=by
 have hi:=fun w1 B (hc:Chg (fun _=>False) w w1) (hB:w1.cell? ⟨B,0,none⟩=some (.string (str nm)))=>Mo (h.Zi hc) hB
 go_enter Tryz.func87,Tryz.ntmps87
 go_wp2_with fail
 refine (hi _ w.heap.size ((Chg.refl _ w).alloc _) (by go_simp)).mono ?_
 rintro _ w1 ⟨rfl,hc⟩
 go_wp2_with fail
 go_ret2
 exact ⟨rfl,((Chg.refl _ w).alloc _).trans hc fun _ _ h=>h⟩
set_option maxHeartbeats 4000000 in
theorem MK {w:World} {v:Value} {nm:List UInt8} (hn:∀ w,Calls Tryz.prog 86 #[.string (str nm)] w fun e w'=>e = .returned (.bool true)∧Chg (fun _=>False) w w') (h:Fy w v nm) :
  Calls Tryz.prog 245 #[.agg #[.int .i64 1,.string (str nm),.int .i64 0,.slice none 0 0],v] w fun e w'=>(∃ k:Int,e = .returned (.tuple #[.int .i64 k,.int .i64 0]))∧Chg (fun _=>False) w w':=by
 have hm:∀ w,Calls Tryz.prog 378 #[.agg #[.int .i64 1,.string (str nm),.int .i64 0,.slice none 0 0]] w fun e w'=>e = .returned (.bool true)∧Chg (fun _=>False) w w':=by
  intro w
  go_enter Tryz.func378,Tryz.ntmps378
  go_wp2_with fail
  refine (hn _).mono ?_
  rintro _ w1 ⟨rfl,hc⟩
  have hcc:=((Chg.refl (fun _=>False) w).alloc (.cells #[.int .i64 1,.string (str nm),.int .i64 0,.slice none 0 0] 369)).trans hc fun _ _ h=>h
  have e2:w1.cell? ⟨w.heap.size,2,none⟩=some (.int .i64 0):=hc.cell (by go_simp) fun h=>h
  have e3:w1.cell? ⟨w.heap.size,3,none⟩=some (.slice none 0 0):=hc.cell (by go_simp) fun h=>h
  go_wp2_with fail
  go_ret
  exact ⟨rfl,hcc⟩
 have ht:∀ w1,Chg (fun _=>False) w w1→Calls Tryz.prog 379 #[.agg #[.int .i64 1,.string (str nm),.int .i64 0,.slice none 0 0],v] w1 fun e w'=>(∃ k:Int,e = .returned (.tuple #[.int .i64 k,.int .i64 0]))∧Chg (fun _=>False) w1 w':=by
  intro w1 hcw
  have h1:=h.Zi hcw
  have hf:=fun w2 (hc:Chg (fun _=>False) w1 w2)=>V8 (h1.Zi hc)
  obtain ⟨b,off,n,cap,rfl,h0,h1,h2,k,h3⟩:=h1
  go_enter Tryz.func379,Tryz.ntmps379
  go_wp2_with fail
  have hca:Chg (fun _=>False) w1 (w1.alloc (.cells #[.int .i64 1,.string (str nm),.int .i64 0,.slice none 0 0] 369)):=(Chg.refl _ w1).alloc _
  refine (hf _ hca).mono ?_
  rintro _ w2 ⟨rfl,hc⟩
  have hcc:=hca.trans hc fun _ _ h=>h
  have g3:=hcc.cell h3 fun h=>h
  have hlt:(0:Int)<(n:Int):=by omega
  go_wp2_with fail
  go_ret2
  exact ⟨⟨k,rfl⟩,hcc⟩
 go_enter Tryz.func245,Tryz.ntmps245
 go_wp2_with fail
 have hca:Chg (fun _=>False) w (w.alloc (.cells #[.int .i64 1,.string (str nm),.int .i64 0,.slice none 0 0] 369)):=(Chg.refl _ w).alloc _
 have e0:(w.alloc (.cells #[.int .i64 1,.string (str nm),.int .i64 0,.slice none 0 0] 369)).cell? ⟨w.heap.size,0,none⟩=some (.int .i64 1):=by go_simp
 have e1:(w.alloc (.cells #[.int .i64 1,.string (str nm),.int .i64 0,.slice none 0 0] 369)).cell? ⟨w.heap.size,1,none⟩=some (.string (str nm)):=by go_simp
 have e2:(w.alloc (.cells #[.int .i64 1,.string (str nm),.int .i64 0,.slice none 0 0] 369)).cell? ⟨w.heap.size,2,none⟩=some (.int .i64 0):=by go_simp
 have e3:(w.alloc (.cells #[.int .i64 1,.string (str nm),.int .i64 0,.slice none 0 0] 369)).cell? ⟨w.heap.size,3,none⟩=some (.slice none 0 0):=by go_simp
 refine (hm _).mono ?_
 rintro _ w1 ⟨rfl,hc⟩
 have g0:=hc.cell e0 fun h=>h
 have g1:=hc.cell e1 fun h=>h
 have g2:=hc.cell e2 fun h=>h
 have g3:=hc.cell e3 fun h=>h
 go_wp2_with fail
 refine (ht _ (hca.trans hc fun _ _ h=>h)).mono ?_
 rintro _ w2 ⟨⟨k,rfl⟩,hc2⟩
 go_wp2_with fail
 go_ret2
 exact ⟨⟨k,rfl⟩,(hca.trans hc fun _ _ h=>h).trans hc2 fun _ _ h=>h⟩
set_option maxHeartbeats 4000000 in
theorem MH {F:Nat→Prop} {w:World} {v rv:Value} {nm:List UInt8} {x:Vl} {r:List Vl} (hn:∀ w,Calls Tryz.prog 86 #[.string (str nm)] w fun e w'=>e = .returned (.bool true)∧Chg (fun _=>False) w w') (h:Fy w v nm)
  (hk:Vb w v ((x::r).map (·.k))) (hr:Zq F w rv (x::r)) (hx:∀ y∈x::r,y.right=true) (hlen:(x::r).length≤1000000) :
  Calls Tryz.prog 293 #[.agg #[.int .i64 1,.string (str nm),.int .i64 0,.slice none 0 0],v,rv] w fun e w'=>e = .returned (.tuple #[x.val,.int .i64 0])∧Chg (fun _=>False) w w':=by
 have hfit:=fun w1 (hc:Chg (fun _=>False) w w1)=>Wh (hk.Zi hc) (hr.Zi hc) hx hlen
 have hty:=fun w1 (hc:Chg (fun _=>False) w w1)=>MK hn (h.Zi hc)
 have hev:∀ w1,Chg (fun _=>False) w w1→Calls Tryz.prog 402 #[.agg #[.int .i64 1,.string (str nm),.int .i64 0,.slice none 0 0],v,rv] w1 fun e w'=>e = .returned (.tuple #[x.val,.int .i64 0])∧Chg (fun _=>False) w1 w':=by
  intro w1 hcw
  have hf:=fun w2 (hc:Chg (fun _=>False) w1 w2)=>V8 ((h.Zi hcw).Zi hc)
  have hr1:=hr.Zi hcw
  obtain ⟨A,rc,rfl,hn1,hcap,hat⟩:=hr1
  obtain ⟨b,off,rfl,_,hb,hx1⟩:=hat (by simp)
  obtain ⟨q0,q1,q2,ql⟩:=hx1 0 x rfl
  have hl:(0:Int)<((x::r).length:Int):=by simp
  obtain ⟨L,hL⟩:∃ L,(x::r).length=L:=⟨_,rfl⟩
  rw [hL] at hl ⊢
  simp only [Nat.zero_mul,Nat.add_zero] at q0 q1 q2
  have hca:Chg (fun _=>False) w1 ((w1.alloc (.cells #[.int .i64 1,.string (str nm),.int .i64 0,.slice none 0 0] 369)).alloc (.cells #[.int .i64 0,.int .i64 0,.string ⟨#[]⟩] 55)):=((Chg.refl _ w1).alloc _).alloc _
  unfold Vl.val
  go_enter Tryz.func402,Tryz.ntmps402
  go_wp2_with fail
  refine (hf _ hca).mono ?_
  rintro _ w2 ⟨rfl,hc⟩
  have hcc:=hca.trans hc fun _ _ h=>h
  have g0:=hcc.cell q0 fun h=>h
  have g1:=hcc.cell q1 fun h=>h
  have g2:=hcc.cell q2 fun h=>h
  have hres:=hc.heap (Qd (w:=w1) (o := .cells #[.int .i64 1,.string (str nm),.int .i64 0,.slice none 0 0] 369) (p := .cells #[.int .i64 0,.int .i64 0,.string ⟨#[]⟩] 55) (Chg.refl _ _)).2 fun h=>h
  obtain ⟨r0,r1,r2⟩:=QQ hres
  have z0:=frozen_of_row w2 (w1.heap.size+1) 0 _ _ hres
  have z1:=frozen_of_row w2 (w1.heap.size+1) 1 _ _ hres
  have z2:=frozen_of_row w2 (w1.heap.size+1) 2 _ _ hres
  clear hres
  have hsz:=hcc.size
  go_wp2_with fail
  refine bodyPost_ret (v := .tuple #[.agg #[.int .i64 x.k,.int .i64 x.n,.string (str x.s)],.int .i64 0]) ?_ rfl ?_
  ·simp only [results,show Tryz.f402.results = #[.cell 6 55,.tmp 7] from rfl]
   go_simp
  ·have h2:Chg (fun k=>k=w1.heap.size+1) w2 (((w2.setCell ⟨w1.heap.size+1,0,none⟩ (.int .i64 x.k)).setCell ⟨w1.heap.size+1,1,none⟩ (.int .i64 x.n)).setCell ⟨w1.heap.size+1,2,none⟩ (.string (str x.s))) :=
    Chg.Jc (T:=fun k=>k=w1.heap.size+1) (Chg.Jc (T:=fun k=>k=w1.heap.size+1) (Chg.Jc (T:=fun k=>k=w1.heap.size+1) (Chg.refl _ w2) (D:=w1.heap.size+1) rfl 0 _) (D:=w1.heap.size+1) rfl 1 _) (D:=w1.heap.size+1) rfl 2 _
   exact ⟨rfl,hcc.trans h2 fun i hi e=>by omega⟩
 obtain ⟨A,rc,rfl,hn1,hcap,hat⟩:=hr
 obtain ⟨b,off,n,cap,rfl,h0,h1,h2,k,h3⟩:=h
 clear hat h1 h2 h3
 go_enter Tryz.func293,Tryz.ntmps293
 go_wp2_with fail
 have hca:Chg (fun _=>False) w ((w.alloc (.cells #[.int .i64 1,.string (str nm),.int .i64 0,.slice none 0 0] 369)).alloc (.cells #[.int .i64 0,.int .i64 0,.string ⟨#[]⟩] 55)):=((Chg.refl _ w).alloc _).alloc _
 obtain ⟨g,hg⟩:∃ g,g=(w.alloc (.cells #[.int .i64 1,.string (str nm),.int .i64 0,.slice none 0 0] 369)).alloc (.cells #[.int .i64 0,.int .i64 0,.string ⟨#[]⟩] 55):=⟨_,rfl⟩
 have t2:=Qd (w:=w) (w1:=g) (o := .cells #[.int .i64 1,.string (str nm),.int .i64 0,.slice none 0 0] 369) (p := .cells #[.int .i64 0,.int .i64 0,.string ⟨#[]⟩] 55) (hg▸Chg.refl _ _)
 rw [← hg] at hca ⊢
 clear hg
 refine (hfit _ hca).mono ?_
 rintro _ w1 ⟨rfl,hc⟩
 have c1:=hca.trans hc fun _ _ h=>h
 have p0:=hc.heap t2.1 fun h=>h
 have p1:=hc.heap t2.2 fun h=>h
 have e0:w1.cell? ⟨w.heap.size,0,none⟩=some (.int .i64 1):=by rw [cell_of_row _ _ _ _ _ _ p0]; rfl
 have e1:w1.cell? ⟨w.heap.size,1,none⟩=some (.string (str nm)):=by rw [cell_of_row _ _ _ _ _ _ p0]; rfl
 have e2:w1.cell? ⟨w.heap.size,2,none⟩=some (.int .i64 0):=by rw [cell_of_row _ _ _ _ _ _ p0]; rfl
 have e3:w1.cell? ⟨w.heap.size,3,none⟩=some (.slice none 0 0):=by rw [cell_of_row _ _ _ _ _ _ p0]; rfl
 have P1:=Lib.hid p1
 have P0:=Lib.hid p0
 clear p0 p1 t2
 go_wp2_with fail
 refine (hty _ c1).mono ?_
 rintro _ w2 ⟨⟨k2,rfl⟩,hc2⟩
 have f0:=hc2.cell e0 fun h=>h
 have f1:=hc2.cell e1 fun h=>h
 have f2:=hc2.cell e2 fun h=>h
 have f3:=hc2.cell e3 fun h=>h
 have c2:=c1.trans hc2 fun _ _ h=>h
 have P2:=Lib.hid (hc2.heap P1.out fun h=>h)
 go_wp2_with fail
 refine (hev _ c2).mono ?_
 rintro _ w3 ⟨rfl,hc3⟩
 have hres:=hc3.heap P2.out fun h=>h
 have c3:=c2.trans hc3 fun _ _ h=>h
 obtain ⟨r0,r1,r2⟩:=QQ hres
 have z0:=frozen_of_row w3 (w.heap.size+1) 0 _ _ hres
 have z1:=frozen_of_row w3 (w.heap.size+1) 1 _ _ hres
 have z2:=frozen_of_row w3 (w.heap.size+1) 2 _ _ hres
 clear hres
 unfold Vl.val
 have hsz:=c3.size
 go_wp2_with fail
 refine bodyPost_ret (v := .tuple #[.agg #[.int .i64 x.k,.int .i64 x.n,.string (str x.s)],.int .i64 0]) ?_ rfl ?_
 ·simp only [results,show Tryz.f293.results = #[.cell 6 55,.tmp 7] from rfl]
  go_simp
 ·have h2:Chg (fun k=>k=w.heap.size+1) w3 (((w3.setCell ⟨w.heap.size+1,0,none⟩ (.int .i64 x.k)).setCell ⟨w.heap.size+1,1,none⟩ (.int .i64 x.n)).setCell ⟨w.heap.size+1,2,none⟩ (.string (str x.s))) :=
   Chg.Jc (T:=fun k=>k=w.heap.size+1) (Chg.Jc (T:=fun k=>k=w.heap.size+1) (Chg.Jc (T:=fun k=>k=w.heap.size+1) (Chg.refl _ w3) (D:=w.heap.size+1) rfl 0 _) (D:=w.heap.size+1) rfl 1 _) (D:=w.heap.size+1) rfl 2 _
  exact ⟨rfl,c3.trans h2 fun i hi e=>by omega⟩
end Go.Proofs.YtheflbaejhlboaaGreatDoor
namespace Go.Proofs.YtheflbaejhlboaaGreatDoor
open Go.RowKit
set_option maxHeartbeats 4000000 in
theorem R8 (w:World):Calls Tryz.prog 136 #[.string ⟨#[97]⟩] w fun e w'=>e = .returned (.bool false)∧Chg (fun _=>False) w w':=by
 go_enter Tryz.func136,Tryz.ntmps136
 go_wp2_with fail
 go_ret
 exact ⟨rfl,Chg.refl _ w⟩
set_option maxHeartbeats 4000000 in
theorem FI (w:World):Calls Tryz.prog 86 #[.string (str [97])] w fun e w'=>e = .returned (.bool true)∧Chg (fun _=>False) w w':=by
 have e:(.string (str [97]):Value) = .string ⟨#[97]⟩:=rfl
 rw [e]
 go_enter Tryz.func86,Tryz.ntmps86
 go_wp2_with fail
 refine (R8 w).mono ?_
 rintro _ w1 ⟨rfl,hc⟩
 go_wp2_with fail
 go_loopw [17] (fun i wr=>(i = .int .i64 0∨i = .int .i64 1)∧Chg (fun _=>False) w wr) (fun i _=>1-(intOf i).toNat)
 case atStart=>exact ⟨.inl rfl,hc⟩
 case round =>
  obtain ⟨rfl | rfl,hcw⟩:=hrel
  ·go_wp2_with fail
   go_roundw
   case rel=>exact ⟨.inr rfl,hcw⟩
   case measure=>simp [intOf]
  ·go_wp2_with fail
   go_ret
   exact ⟨rfl,hcw⟩
end Go.Proofs.YtheflbaejhlboaaGreatDoor
namespace Go.Proofs.YtheflbaejhlboaaGreatDoor
open Go.RowKit Go.ChangeShapes Go.WideShapes
section
variable {H:Type} {enc:TypeId×Value→H} {P:Program} {w:World} {base:Nat} {held:Bool}
end
end Go.Proofs.YtheflbaejhlboaaGreatDoor
