/- A part of the proof of a law of package confluencetop: lemmas, no condition of ours. -/
import Derived.Test.YtheflbaejhlboaaGreatDoorTopUn3
set_option linter.unusedVariables false
set_option linter.unusedSectionVars false
set_option linter.unusedSimpArgs false
namespace Go.Proofs.YtheflbaejhlboaaGreatDoor
open Go.RowKit
def bs1 (ps:List PI) (x:PI):Nat→Nat→Nat→Nat
 | 0,i,_=>i
 | f+1,i,j=>if i<j then (match ps[(i+j) / 2]? with
   | some y=>if J3 y x<0 then bs1 ps x f ((i+j) / 2+1) j else bs1 ps x f i ((i+j) / 2)
   | none=>i) else i
def bs2 (ps:List PI) (x:PI):Nat→Nat→Nat→Nat
 | 0,i,_=>i
 | f+1,i,j=>if i<j then (match ps[(i+j) / 2]? with
   | some y=>if J3 x y<0 then bs2 ps x f i ((i+j) / 2) else bs2 ps x f ((i+j) / 2+1) j
   | none=>i) else i
def bs3 (ps:List PI) (p:Nat):Nat→Nat→Nat→Nat
 | 0,i,_=>i
 | f+1,i,j=>if i<j then (match ps[p-(i+j) / 2]?,ps[(i+j) / 2]? with
   | some x,some y=>if J3 x y<0 then bs3 ps p f i ((i+j) / 2) else bs3 ps p f ((i+j) / 2+1) j
   | _,_=>i) else i
def upN:Nat→Nat→List PI→List PI
 | 0,_,ps=>ps
 | c+1,k,ps=>upN c (k+1) (sw ps k (k+1))
def XV:Nat→Nat→List PI→List PI
 | 0,_,ps=>ps
 | c+1,k,ps=>XV c (k-1) (sw ps k (k-1))
set_option maxRecDepth 100000 in
set_option maxHeartbeats 8000000 in
theorem U9 {F:Nat→Prop} {w:World} {g N cap a m b:Nat} {ps:List PI} (h:Arr w g ps) (hN:ps.length=N) (hcap:N≤cap) (ham:a+1=m) (hmb:m<b) (hb:b≤N) (hm:N≤1000000000) (hp:∀ p∈ps,POk F w p) (hF:¬ F g) {x0:PI} (hx0:ps[a]? = some x0) :
  Calls Tryz.prog 482 #[.slice (some ⟨g,0,none⟩) N cap,.int .i64 (a:Int),.int .i64 (m:Int),.int .i64 (b:Int),Ks] w fun e w'=>e = .returned (.tuple #[])∧Arr w' g (upN (bs1 ps x0 (b-m) m b-1-a) a ps)∧Chg (fun k=>k=g) w w':=by
 have H:=Lib.hid h
 have HN:=Lib.hid hN
 have HM:=Lib.hid hm
 have HP:=Lib.hid hp
 have HF:=Lib.hid hF
 have HX:=Lib.hid hx0
 have w0:IntKind.i64.wrap ((m:Int)-(a:Int))=1:=by rw [show (m:Int)-(a:Int)=1 by omega]; exact IntWalk.i64_in _ (by omega)
 have hst:=Z5
 obtain ⟨xv,xx⟩:=x0
 clear h hN hm hp hF hx0
 unfold Ks
 go_enter Tryz.func482,Tryz.ntmps482
 go_wp2_with fail
 go_loopw [10,11] (fun x y wr=>∃ (I J:Nat),m≤I∧I≤J∧J≤b∧x = .int .i64 I∧y = .int .i64 J∧Hid (Arr wr g ps)∧Hid (∃ f,J-I≤f∧bs1 ps (xv,xx) (b-m) m b=bs1 ps (xv,xx) f I J)∧Chg (fun k=>k=g) w wr) (fun x y _=>(intOf y).toNat-(intOf x).toNat)
 case atStart=>exact ⟨m,b,Nat.le_refl _,by omega,Nat.le_refl _,rfl,rfl,H,Lib.hid ⟨b-m,Nat.le_refl _,rfl⟩,Chg.refl _ _⟩
 case round =>
  obtain ⟨I,J,hI1,hI2,hJ,rfl,rfl,HA,HR,hcw⟩:=hrel
  obtain ⟨wq,hwq⟩:∃ x,x=wr:=⟨_,rfl⟩
  subst hwq
  by_cases hlt:I<J
  ·have hM:=HM.out
   obtain ⟨f0,hf0,hR⟩:=HR.out
   obtain ⟨f,rfl⟩:∃ f,f0=f+1:=⟨f0-1,by omega⟩
   obtain ⟨h,hh⟩:∃ h,(I+J) / 2=h:=⟨_,rfl⟩
   have k1:I≤h:=by omega
   have k2:h<J:=by omega
   obtain ⟨⟨yv,yx⟩,hy⟩:∃ p,ps[h]? = some p:=⟨_,List.getElem?_eq_getElem (by rw [HN.out]; omega)⟩
   rw [bs1,if_pos hlt,hh,hy] at hR
   simp only at hR
   have hM':=hM
   have ha:Arr wq.drew g ps:=HA.out.Zi ((Chg.refl _ wq).drew)
   obtain ⟨d2,d3,e2,e3⟩:=ha.cells hy
   obtain ⟨d0,d1,e0,e1⟩:=ha.cells HX.out
   have hcd:=hcw.drew
   have hpx:POk F wq.drew (yv,yx):=(HP.out _ (List.mem_of_getElem? hy)).chg hcd fun k hk _ e=>HF.out (e▸hk)
   have hpy:POk F wq.drew (xv,xx):=(HP.out _ (List.mem_of_getElem? HX.out)).chg hcd fun k hk _ e=>HF.out (e▸hk)
   obtain ⟨cv,hcv⟩:∃ c,J3 (yv,yx) (xv,xx)=c:=⟨_,rfl⟩
   rw [hcv] at hR
   have HR2:=Lib.hid hR
   simp only at d0 d1 d2 d3 e0 e1 e2 e3
   have l1:h<N:=by omega
   have l2:a<N:=by omega
   have v1:IntKind.i64.wrap ((I:Int)+(J:Int))=((I+J:Nat):Int):=by rw [show (I:Int)+(J:Int)=((I+J:Nat):Int) by omega]; exact IntWalk.i64_in _ (by omega)
   obtain ⟨ij,hij⟩:∃ m,I+J=m:=⟨_,rfl⟩
   rw [hij] at v1 hh
   have v2:IntKind.u64.wrap (ij:Int)=(ij:Int):=by rw [IntKind.wrap_u64]; omega
   have v4:IntKind.u64.wrap (h:Int)=(h:Int):=by rw [IntKind.wrap_u64]; omega
   have v5:IntKind.i64.wrap (h:Int)=(h:Int):=IntWalk.i64_in _ (by omega)
   have v3:(ij:Int) / 2=(h:Int):=by omega
   have v6:ij / 2=h:=hh
   clear hR hy ha hM hM' hij hh
   go_wp2_with fail
   refine Zm [4,8] (S:=fun wx=>wx.cell? ⟨g,h*2,none⟩=some yv∧wx.cell? ⟨g,h*2+1,none⟩=some (.complex .f64 (fl yx.a) (fl yx.b))∧wx.cell? ⟨g,a*2,none⟩=some xv∧wx.cell? ⟨g,a*2+1,none⟩=some (.complex .f64 (fl xx.a) (fl xx.b))) (by kernel_rfl) ⟨d2,d3,d0,d1⟩ (fun hHeld => ?_)
   refine Zb (i:=0) (some 40) (v := ?_) rfl rfl (by kernel_rfl) (by kernel_rfl) (by kernel_rfl) (fun _ _ _ h=>h) (Or.inl ⟨by rfl,?_⟩) ?_
   rotate_left
   ·(intro wx hSw; clear hSw; go_simp; try (with_reducible rfl))
   try simp only [Act.put,List.setIfInBounds_toArray,List.set_cons_zero,List.set_cons_succ]
   refine Zb (i:=1) (some 41) (v := ?_) rfl rfl (by kernel_rfl) (by kernel_rfl) (by kernel_rfl) (fun _ _ _ h=>h) (Or.inl ⟨by rfl,?_⟩) ?_
   rotate_left
   ·(intro wx hSw; clear hSw; go_simp; try (with_reducible rfl))
   try simp only [Act.put,List.setIfInBounds_toArray,List.set_cons_zero,List.set_cons_succ]
   refine Zb (i:=2) (some 42) (v := ?_) rfl rfl (by kernel_rfl) (by kernel_rfl) (by kernel_rfl) (fun _ _ _ h=>h) (Or.inl ⟨by rfl,?_⟩) ?_
   rotate_left
   ·(intro wx hSw; clear hSw; go_simp; try (with_reducible rfl))
   try simp only [Act.put,List.setIfInBounds_toArray,List.set_cons_zero,List.set_cons_succ]
   refine Zb (i:=3) (some 43) (v := ?_) rfl rfl (by kernel_rfl) (by kernel_rfl) (by kernel_rfl) (fun _ _ _ h=>h) (Or.inl ⟨by rfl,?_⟩) ?_
   rotate_left
   ·(intro wx hSw; clear hSw; go_simp; try (with_reducible rfl))
   try simp only [Act.put,List.setIfInBounds_toArray,List.set_cons_zero,List.set_cons_succ]
   refine Zp (i:=4) (some 44) (v := ?_) (by decide) rfl rfl (by kernel_rfl) (by kernel_rfl) (by kernel_rfl) (fun _ _ _ h=>h) (Or.inl ⟨by rfl,?_⟩) (by assumption) ?_
   rotate_left
   ·(intro wx hSw; go_simp; try (with_reducible rfl))
   try simp only [Act.put,List.setIfInBounds_toArray,List.set_cons_zero,List.set_cons_succ]
   refine Zb (i:=5) (some 45) (v := ?_) rfl rfl (by kernel_rfl) (by kernel_rfl) (by kernel_rfl) (fun _ _ _ h=>h) (Or.inl ⟨by rfl,?_⟩) ?_
   rotate_left
   ·(intro wx hSw; clear hSw; go_simp; try (with_reducible rfl))
   try simp only [Act.put,List.setIfInBounds_toArray,List.set_cons_zero,List.set_cons_succ]
   refine Zb (i:=6) (some 46) (v := ?_) rfl rfl (by kernel_rfl) (by kernel_rfl) (by kernel_rfl) (fun _ _ _ h=>h) (Or.inl ⟨by rfl,?_⟩) ?_
   rotate_left
   ·(intro wx hSw; clear hSw; go_simp; try (with_reducible rfl))
   try simp only [Act.put,List.setIfInBounds_toArray,List.set_cons_zero,List.set_cons_succ]
   refine Zb (i:=7) (some 47) (v := ?_) rfl rfl (by kernel_rfl) (by kernel_rfl) (by kernel_rfl) (fun _ _ _ h=>h) (Or.inl ⟨by rfl,?_⟩) ?_
   rotate_left
   ·(intro wx hSw; clear hSw; go_simp; try (with_reducible rfl))
   try simp only [Act.put,List.setIfInBounds_toArray,List.set_cons_zero,List.set_cons_succ]
   refine Zp (i:=8) (some 48) (v := ?_) (by decide) rfl rfl (by kernel_rfl) (by kernel_rfl) (by kernel_rfl) (fun _ _ _ h=>h) (Or.inl ⟨by rfl,?_⟩) (by assumption) ?_
   rotate_left
   ·(intro wx hSw; go_simp; try (with_reducible rfl))
   try simp only [Act.put,List.setIfInBounds_toArray,List.set_cons_zero,List.set_cons_succ]
   refine Zj (rs:=[9]) (by kernel_rfl) (by simp) ?_
   refine Zf.Qc rfl (by kernel_rfl) (fun K hK => ?_) Zf.nil
   go_simp
   refine (QY hpx hpy).mono ?_
   rintro _ wA ⟨rfl,hA⟩
   rw [hcv]
   go_wp2_with fail
   refine hK.out _ _ ?_
   clear hK K
   try simp only [Act.put,List.setIfInBounds_toArray,List.set_cons_zero,List.set_cons_succ]
   refine Zb (i:=10) (some 50) (v := ?_) rfl rfl (by kernel_rfl) (by kernel_rfl) (by kernel_rfl) (fun _ _ _ h=>h) (Or.inl ⟨by rfl,?_⟩) ?_
   rotate_left
   ·(intro wx hSw; clear hSw; go_simp; try (with_reducible rfl))
   try simp only [Act.put,List.setIfInBounds_toArray,List.set_cons_zero,List.set_cons_succ]
   refine Zw (by kernel_rfl) ?_ _
   have hAA:=Lib.hid ((HA.out.Zi ((Chg.refl _ wq).drew)).Zi hA)
   have hcA:Chg (fun k=>k=g) w wA:=hcd.trans hA fun _ _ h=>h.elim
   clear d0 d1 d2 d3 e0 e1 e2 e3 hpx hpy v1 v2 v3 v4
   by_cases hneg:cv<0
   ·have HR3:=Lib.hid (HR2.out.trans (if_pos hneg))
    have hM:=HM.out
    have v7:IntKind.i64.wrap ((h:Int)+1)=((h+1:Nat):Int):=by rw [show (h:Int)+1=((h+1:Nat):Int) by omega]; exact IntWalk.i64_in _ (by omega)
    go_wp2_with fail
    go_roundw
    case rel=>exact ⟨h+1,J,by omega,by omega,by omega,by go_num,rfl,hAA,Lib.hid ⟨f,by omega,HR3.out⟩,hcA⟩
    case measure=>simp [intOf]; omega
   ·have HR3:=Lib.hid (HR2.out.trans (if_neg hneg))
    go_wp2_with fail
    go_roundw
    case rel=>exact ⟨I,h,by omega,by omega,by omega,rfl,rfl,hAA,Lib.hid ⟨f,by omega,HR3.out⟩,hcA⟩
    case measure=>simp [intOf]; omega
  ·have hIJ:I=J:=by omega
   subst hIJ
   have hres:bs1 ps (xv,xx) (b-m) m b=I:=by
    obtain ⟨f,hf,hR⟩:=HR.out
    rw [hR]
    cases f with
    | zero=>rfl
    | succ f=>rw [bs1,if_neg (by omega)]
   have HRES:=Lib.hid hres
   have hM:=HM.out
   have v1:IntKind.i64.wrap ((I:Int)-1)=((I-1:Nat):Int):=by rw [show (I:Int)-1=((I-1:Nat):Int) by omega]; exact IntWalk.i64_in _ (by omega)
   obtain ⟨i1,hi1⟩:∃ x,I-1=x:=⟨_,rfl⟩
   rw [hi1] at v1
   clear hres
   go_wp2_with fail
   go_loopw [13] (fun x wr=>∃ (Q:Nat) (qs:List PI),a≤Q∧Q≤i1∧x = .int .i64 Q∧Hid (qs.length=N)∧Hid (Arr wr g qs)∧Hid (upN (i1-a) a ps=upN (i1-Q) Q qs)∧Chg (fun k=>k=g) w wr) (fun x _=>i1-(intOf x).toNat)
   case atStart=>exact ⟨a,ps,Nat.le_refl _,by omega,rfl,HN,HA,Lib.hid rfl,hcw⟩
   case round =>
    clear hcw HA
    obtain ⟨Q,qs,hQ1,hQ2,rfl,HL,HA,HU,hcw⟩:=hrel
    by_cases hlt2:Q<i1
    ·obtain ⟨q1,hq1⟩:∃ m,Q+1=m:=⟨_,rfl⟩
     obtain ⟨⟨yv,yx⟩,hy⟩:∃ p,qs[Q]? = some p:=⟨_,List.getElem?_eq_getElem (by rw [HL.out]; omega)⟩
     obtain ⟨⟨zv,zx⟩,hz⟩:∃ p,qs[q1]? = some p:=⟨_,List.getElem?_eq_getElem (by rw [HL.out]; omega)⟩
     have hAd:Arr wr.drew g qs:=HA.out.Zi ((Chg.refl _ wr).drew)
     obtain ⟨x2,x3,y2,y3⟩:=HA.out.cells hz
     obtain ⟨x0,x1,y0,y1⟩:=HA.out.cells hy
     obtain ⟨f2,f3,k2,k3⟩:=hAd.cells hz
     obtain ⟨f0,f1,k0,k1⟩:=hAd.cells hy
     have s1:=hAd.one hy
     have s2:=hAd.one hz
     have HW:=Lib.hid (hAd.swap hy hz)
     have HU2:=Lib.hid (HU.out.trans (show upN (i1-Q) Q qs=upN (i1-q1) q1 ((qs.set Q (zv,zx)).set q1 (yv,yx)) by rw [show i1-Q=(i1-q1)+1 by omega,upN,hq1,sw,hy,hz]))
     simp only at x0 x1 x2 x3 y0 y1 y2 y3 f0 f1 f2 f3 k0 k1 k2 k3 s1 s2
     have l1:Q<N:=by omega
     have l2:q1<N:=by omega
     have m1:¬ q1=Q:=by omega
     have m2:¬ Q=q1:=by omega
     have m3:¬ q1*2=Q*2+1:=by omega
     have m4:¬ Q*2+1=q1*2:=by omega
     have m5:¬ q1*2+1=Q*2:=by omega
     have m6:¬ Q*2=q1*2+1:=by omega
     have v7:IntKind.i64.wrap ((Q:Int)+1)=(q1:Int):=by rw [show (Q:Int)+1=(q1:Int) by omega]; exact IntWalk.i64_in _ (by omega)
     clear hAd hy hz HU
     go_wp2_with fail
     refine Zm [9,13] (S:=fun wx=>wx.cell? ⟨g,q1*2,none⟩=some zv∧wx.cell? ⟨g,q1*2+1,none⟩=some (.complex .f64 (fl zx.a) (fl zx.b))∧wx.cell? ⟨g,Q*2,none⟩=some yv∧wx.cell? ⟨g,Q*2+1,none⟩=some (.complex .f64 (fl yx.a) (fl yx.b))) (by kernel_rfl) ⟨f2,f3,f0,f1⟩ (fun hHeld => ?_)
     refine Zb (i:=0) (some 61) (v := ?_) rfl rfl (by kernel_rfl) (by kernel_rfl) (by kernel_rfl) (fun _ _ _ h=>h) (Or.inl ⟨by rfl,?_⟩) ?_
     rotate_left
     ·(intro wx hSw; clear hSw; go_simp; try (with_reducible rfl))
     try simp only [Act.put,List.setIfInBounds_toArray,List.set_cons_zero,List.set_cons_succ]
     refine Zb (i:=1) (some 62) (v := ?_) rfl rfl (by kernel_rfl) (by kernel_rfl) (by kernel_rfl) (fun _ _ _ h=>h) (Or.inl ⟨by rfl,?_⟩) ?_
     rotate_left
     ·(intro wx hSw; clear hSw; go_simp; try (with_reducible rfl))
     try simp only [Act.put,List.setIfInBounds_toArray,List.set_cons_zero,List.set_cons_succ]
     refine Zb (i:=2) (some 63) (v := ?_) rfl rfl (by kernel_rfl) (by kernel_rfl) (by kernel_rfl) (fun _ _ _ h=>h) (Or.inl ⟨by rfl,?_⟩) ?_
     rotate_left
     ·(intro wx hSw; clear hSw; go_simp; try (with_reducible rfl))
     try simp only [Act.put,List.setIfInBounds_toArray,List.set_cons_zero,List.set_cons_succ]
     refine Zb (i:=3) (some 64) (v := ?_) rfl rfl (by kernel_rfl) (by kernel_rfl) (by kernel_rfl) (fun _ _ _ h=>h) (Or.inl ⟨by rfl,?_⟩) ?_
     rotate_left
     ·(intro wx hSw; clear hSw; go_simp; try (with_reducible rfl))
     try simp only [Act.put,List.setIfInBounds_toArray,List.set_cons_zero,List.set_cons_succ]
     refine Zb (i:=4) (some 65) (v := ?_) rfl rfl (by kernel_rfl) (by kernel_rfl) (by kernel_rfl) (fun _ _ _ h=>h) (Or.inl ⟨by rfl,?_⟩) ?_
     rotate_left
     ·(intro wx hSw; clear hSw; go_simp; try (with_reducible rfl))
     try simp only [Act.put,List.setIfInBounds_toArray,List.set_cons_zero,List.set_cons_succ]
     refine Zb (i:=5) (some 66) (v := ?_) rfl rfl (by kernel_rfl) (by kernel_rfl) (by kernel_rfl) (fun _ _ _ h=>h) (Or.inl ⟨by rfl,?_⟩) ?_
     rotate_left
     ·(intro wx hSw; clear hSw; go_simp; try (with_reducible rfl))
     try simp only [Act.put,List.setIfInBounds_toArray,List.set_cons_zero,List.set_cons_succ]
     refine Zb (i:=6) (some 67) (v := ?_) rfl rfl (by kernel_rfl) (by kernel_rfl) (by kernel_rfl) (fun _ _ _ h=>h) (Or.inl ⟨by rfl,?_⟩) ?_
     rotate_left
     ·(intro wx hSw; clear hSw; go_simp; try (with_reducible rfl))
     try simp only [Act.put,List.setIfInBounds_toArray,List.set_cons_zero,List.set_cons_succ]
     refine Zb (i:=7) (some 68) (v := ?_) rfl rfl (by kernel_rfl) (by kernel_rfl) (by kernel_rfl) (fun _ _ _ h=>h) (Or.inl ⟨by rfl,?_⟩) ?_
     rotate_left
     ·(intro wx hSw; clear hSw; go_simp; try (with_reducible rfl))
     try simp only [Act.put,List.setIfInBounds_toArray,List.set_cons_zero,List.set_cons_succ]
     refine Zb (i:=8) (some 69) (v := ?_) rfl rfl (by kernel_rfl) (by kernel_rfl) (by kernel_rfl) (fun _ _ _ h=>h) (Or.inl ⟨by rfl,?_⟩) ?_
     rotate_left
     ·(intro wx hSw; clear hSw; go_simp; try (with_reducible rfl))
     try simp only [Act.put,List.setIfInBounds_toArray,List.set_cons_zero,List.set_cons_succ]
     refine Zp (i:=9) (some 70) (v := ?_) (by decide) rfl rfl (by kernel_rfl) (by kernel_rfl) (by kernel_rfl) (fun _ _ _ h=>h) (Or.inl ⟨by rfl,?_⟩) (by assumption) ?_
     rotate_left
     ·(intro wx hSw; go_simp; try (with_reducible rfl))
     try simp only [Act.put,List.setIfInBounds_toArray,List.set_cons_zero,List.set_cons_succ]
     refine Zb (i:=10) (some 71) (v := ?_) rfl rfl (by kernel_rfl) (by kernel_rfl) (by kernel_rfl) (fun _ _ _ h=>h) (Or.inl ⟨by rfl,?_⟩) ?_
     rotate_left
     ·(intro wx hSw; clear hSw; go_simp; try (with_reducible rfl))
     try simp only [Act.put,List.setIfInBounds_toArray,List.set_cons_zero,List.set_cons_succ]
     refine Zb (i:=11) (some 72) (v := ?_) rfl rfl (by kernel_rfl) (by kernel_rfl) (by kernel_rfl) (fun _ _ _ h=>h) (Or.inl ⟨by rfl,?_⟩) ?_
     rotate_left
     ·(intro wx hSw; clear hSw; go_simp; try (with_reducible rfl))
     try simp only [Act.put,List.setIfInBounds_toArray,List.set_cons_zero,List.set_cons_succ]
     refine Zb (i:=12) (some 73) (v := ?_) rfl rfl (by kernel_rfl) (by kernel_rfl) (by kernel_rfl) (fun _ _ _ h=>h) (Or.inl ⟨by rfl,?_⟩) ?_
     rotate_left
     ·(intro wx hSw; clear hSw; go_simp; try (with_reducible rfl))
     try simp only [Act.put,List.setIfInBounds_toArray,List.set_cons_zero,List.set_cons_succ]
     refine Zp (i:=13) (some 74) (v := ?_) (by decide) rfl rfl (by kernel_rfl) (by kernel_rfl) (by kernel_rfl) (fun _ _ _ h=>h) (Or.inl ⟨by rfl,?_⟩) (by assumption) ?_
     rotate_left
     ·(intro wx hSw; go_simp; try (with_reducible rfl))
     try simp only [Act.put,List.setIfInBounds_toArray,List.set_cons_zero,List.set_cons_succ]
     refine Zb (i:=14) (some 75) (v := ?_) rfl rfl (by kernel_rfl) (by kernel_rfl) (by kernel_rfl) (fun _ _ _ h=>h) (Or.inl ⟨by rfl,?_⟩) ?_
     rotate_left
     ·(intro wx hSw; clear hSw; go_simp; try (with_reducible rfl))
     try simp only [Act.put,List.setIfInBounds_toArray,List.set_cons_zero,List.set_cons_succ]
     refine Zj (rs:=[15]) (by kernel_rfl) (by simp) ?_
     refine Zf.Qc rfl (by kernel_rfl) (fun K hK => ?_) Zf.nil
     go_simp
     refine hK.out _ _ ?_
     clear hK K
     try simp only [Act.put,List.setIfInBounds_toArray,List.set_cons_zero,List.set_cons_succ]
     refine Zb (i:=16) (some 76) (v := ?_) rfl rfl (by kernel_rfl) (by kernel_rfl) (by kernel_rfl) (fun _ _ _ h=>h) (Or.inl ⟨by rfl,?_⟩) ?_
     rotate_left
     ·(intro wx hSw; clear hSw; go_simp; try (with_reducible rfl))
     try simp only [Act.put,List.setIfInBounds_toArray,List.set_cons_zero,List.set_cons_succ]
     refine Zj (rs:=[17]) (by kernel_rfl) (by simp) ?_
     refine Zf.Qc rfl (by kernel_rfl) (fun K hK => ?_) Zf.nil
     go_simp
     refine hK.out _ _ ?_
     clear hK K
     try simp only [Act.put,List.setIfInBounds_toArray,List.set_cons_zero,List.set_cons_succ]
     refine Zw (by kernel_rfl) ?_ _
     go_wp2_with fail
     go_roundw
     case rel =>
      refine ⟨q1,_,by omega,by omega,rfl,?_,HW,HU2,?_⟩
      ·exact Lib.hid (by simp; exact HL.out)
      ·exact (hcw.drew).trans (VB wr.drew g Q q1 (yv,yx) (zv,zx)) fun _ _ h=>h
     case measure=>simp [intOf]; omega
    ·have hge:¬ ((Q:Int)<(i1:Int)):=by omega
     have e:i1-Q=0:=by omega
     rw [e] at HU
     go_wp2_with fail
     (try simp only [Exit.inBlock,Exit.then])
     refine bodyPost_ret (results_none rfl _ _ _) rfl ?_
     exact ⟨rfl,by rw [HRES.out,hi1,HU.out]; exact HA.out,hcw⟩
end Go.Proofs.YtheflbaejhlboaaGreatDoor
namespace Go.Proofs.YtheflbaejhlboaaGreatDoor
open Go.RowKit
set_option maxRecDepth 100000 in
set_option maxHeartbeats 8000000 in
theorem Ea {F:Nat→Prop} {w:World} {g N cap a m b:Nat} {ps:List PI} (h:Arr w g ps) (hN:ps.length=N) (hcap:N≤cap) (ham:a+1<m) (hmb:m+1=b) (hb:b≤N) (hm:N≤1000000000) (hp:∀ p∈ps,POk F w p) (hF:¬ F g) {x0:PI} (hx0:ps[m]? = some x0) :
  Calls Tryz.prog 482 #[.slice (some ⟨g,0,none⟩) N cap,.int .i64 (a:Int),.int .i64 (m:Int),.int .i64 (b:Int),Ks] w fun e w'=>e = .returned (.tuple #[])∧Arr w' g (XV (m-bs2 ps x0 (m-a) a m) m ps)∧Chg (fun k=>k=g) w w':=by
 have H:=Lib.hid h
 have HN:=Lib.hid hN
 have HM:=Lib.hid hm
 have HP:=Lib.hid hp
 have HF:=Lib.hid hF
 have HX:=Lib.hid hx0
 have w0:IntKind.i64.wrap ((m:Int)-(a:Int))=((m-a:Nat):Int):=by rw [show (m:Int)-(a:Int)=((m-a:Nat):Int) by omega]; exact IntWalk.i64_in _ (by omega)
 obtain ⟨ma,hma⟩:∃ x,m-a=x:=⟨_,rfl⟩
 have hma1:¬ ma=1:=by omega
 have hma2:((ma:Int)==1)=false:=beq_eq_false_iff_ne.2 (by omega)
 have w00:IntKind.i64.wrap ((b:Int)-(m:Int))=1:=by rw [show (b:Int)-(m:Int)=1 by omega]; exact IntWalk.i64_in _ (by omega)
 rw [hma] at w0 ⊢
 have hst:=Z5
 obtain ⟨xv,xx⟩:=x0
 clear h hN hm hp hF hx0
 unfold Ks
 go_enter Tryz.func482,Tryz.ntmps482
 go_wp2_with fail
 go_loopw [14,15] (fun x y wr=>∃ (I J:Nat),a≤I∧I≤J∧J≤m∧x = .int .i64 I∧y = .int .i64 J∧Hid (Arr wr g ps)∧Hid (∃ f,J-I≤f∧bs2 ps (xv,xx) ma a m=bs2 ps (xv,xx) f I J)∧Chg (fun k=>k=g) w wr) (fun x y _=>(intOf y).toNat-(intOf x).toNat)
 case atStart=>exact ⟨a,m,Nat.le_refl _,by omega,Nat.le_refl _,rfl,rfl,H,Lib.hid ⟨ma,by omega,rfl⟩,Chg.refl _ _⟩
 case round =>
  obtain ⟨I,J,hI1,hI2,hJ,rfl,rfl,HA,HR,hcw⟩:=hrel
  obtain ⟨wq,hwq⟩:∃ x,x=wr:=⟨_,rfl⟩
  subst hwq
  by_cases hlt:I<J
  ·have hM:=HM.out
   obtain ⟨f0,hf0,hR⟩:=HR.out
   obtain ⟨f,rfl⟩:∃ f,f0=f+1:=⟨f0-1,by omega⟩
   obtain ⟨h,hh⟩:∃ h,(I+J) / 2=h:=⟨_,rfl⟩
   have k1:I≤h:=by omega
   have k2:h<J:=by omega
   obtain ⟨⟨yv,yx⟩,hy⟩:∃ p,ps[h]? = some p:=⟨_,List.getElem?_eq_getElem (by rw [HN.out]; omega)⟩
   rw [bs2,if_pos hlt,hh,hy] at hR
   simp only at hR
   have hM':=hM
   have ha:Arr wq.drew g ps:=HA.out.Zi ((Chg.refl _ wq).drew)
   obtain ⟨d0,d1,e0,e1⟩:=ha.cells hy
   obtain ⟨d2,d3,e2,e3⟩:=ha.cells HX.out
   have hcd:=hcw.drew
   have hpy:POk F wq.drew (yv,yx):=(HP.out _ (List.mem_of_getElem? hy)).chg hcd fun k hk _ e=>HF.out (e▸hk)
   have hpx:POk F wq.drew (xv,xx):=(HP.out _ (List.mem_of_getElem? HX.out)).chg hcd fun k hk _ e=>HF.out (e▸hk)
   obtain ⟨cv,hcv⟩:∃ c,J3 (xv,xx) (yv,yx)=c:=⟨_,rfl⟩
   rw [hcv] at hR
   have HR2:=Lib.hid hR
   simp only at d0 d1 d2 d3 e0 e1 e2 e3
   have l1:h<N:=by omega
   have l2:m<N:=by omega
   have v1:IntKind.i64.wrap ((I:Int)+(J:Int))=((I+J:Nat):Int):=by rw [show (I:Int)+(J:Int)=((I+J:Nat):Int) by omega]; exact IntWalk.i64_in _ (by omega)
   obtain ⟨ij,hij⟩:∃ m,I+J=m:=⟨_,rfl⟩
   rw [hij] at v1 hh
   have v2:IntKind.u64.wrap (ij:Int)=(ij:Int):=by rw [IntKind.wrap_u64]; omega
   have v4:IntKind.u64.wrap (h:Int)=(h:Int):=by rw [IntKind.wrap_u64]; omega
   have v5:IntKind.i64.wrap (h:Int)=(h:Int):=IntWalk.i64_in _ (by omega)
   have v3:(ij:Int) / 2=(h:Int):=by omega
   have v6:ij / 2=h:=hh
   clear hR hy ha hM hM' hij hh
   have hM:=HM.out
   by_cases hneg:cv<0
   ·go_wp2_with fail
    refine Zm [4,8] (S:=fun wx=>wx.cell? ⟨g,m*2,none⟩=some xv∧wx.cell? ⟨g,m*2+1,none⟩=some (.complex .f64 (fl xx.a) (fl xx.b))∧wx.cell? ⟨g,h*2,none⟩=some yv∧wx.cell? ⟨g,h*2+1,none⟩=some (.complex .f64 (fl yx.a) (fl yx.b))) (by kernel_rfl) ⟨d2,d3,d0,d1⟩ (fun hHeld => ?_)
    refine Zb (i:=0) (some 92) (v := ?_) rfl rfl (by kernel_rfl) (by kernel_rfl) (by kernel_rfl) (fun _ _ _ h=>h) (Or.inl ⟨by rfl,?_⟩) ?_
    rotate_left
    ·(intro wx hSw; clear hSw; go_simp; try (with_reducible rfl))
    try simp only [Act.put,List.setIfInBounds_toArray,List.set_cons_zero,List.set_cons_succ]
    refine Zb (i:=1) (some 93) (v := ?_) rfl rfl (by kernel_rfl) (by kernel_rfl) (by kernel_rfl) (fun _ _ _ h=>h) (Or.inl ⟨by rfl,?_⟩) ?_
    rotate_left
    ·(intro wx hSw; clear hSw; go_simp; try (with_reducible rfl))
    try simp only [Act.put,List.setIfInBounds_toArray,List.set_cons_zero,List.set_cons_succ]
    refine Zb (i:=2) (some 94) (v := ?_) rfl rfl (by kernel_rfl) (by kernel_rfl) (by kernel_rfl) (fun _ _ _ h=>h) (Or.inl ⟨by rfl,?_⟩) ?_
    rotate_left
    ·(intro wx hSw; clear hSw; go_simp; try (with_reducible rfl))
    try simp only [Act.put,List.setIfInBounds_toArray,List.set_cons_zero,List.set_cons_succ]
    refine Zb (i:=3) (some 95) (v := ?_) rfl rfl (by kernel_rfl) (by kernel_rfl) (by kernel_rfl) (fun _ _ _ h=>h) (Or.inl ⟨by rfl,?_⟩) ?_
    rotate_left
    ·(intro wx hSw; clear hSw; go_simp; try (with_reducible rfl))
    try simp only [Act.put,List.setIfInBounds_toArray,List.set_cons_zero,List.set_cons_succ]
    refine Zp (i:=4) (some 96) (v := ?_) (by decide) rfl rfl (by kernel_rfl) (by kernel_rfl) (by kernel_rfl) (fun _ _ _ h=>h) (Or.inl ⟨by rfl,?_⟩) (by assumption) ?_
    rotate_left
    ·(intro wx hSw; go_simp; try (with_reducible rfl))
    try simp only [Act.put,List.setIfInBounds_toArray,List.set_cons_zero,List.set_cons_succ]
    refine Zb (i:=5) (some 97) (v := ?_) rfl rfl (by kernel_rfl) (by kernel_rfl) (by kernel_rfl) (fun _ _ _ h=>h) (Or.inl ⟨by rfl,?_⟩) ?_
    rotate_left
    ·(intro wx hSw; clear hSw; go_simp; try (with_reducible rfl))
    try simp only [Act.put,List.setIfInBounds_toArray,List.set_cons_zero,List.set_cons_succ]
    refine Zb (i:=6) (some 98) (v := ?_) rfl rfl (by kernel_rfl) (by kernel_rfl) (by kernel_rfl) (fun _ _ _ h=>h) (Or.inl ⟨by rfl,?_⟩) ?_
    rotate_left
    ·(intro wx hSw; clear hSw; go_simp; try (with_reducible rfl))
    try simp only [Act.put,List.setIfInBounds_toArray,List.set_cons_zero,List.set_cons_succ]
    refine Zb (i:=7) (some 99) (v := ?_) rfl rfl (by kernel_rfl) (by kernel_rfl) (by kernel_rfl) (fun _ _ _ h=>h) (Or.inl ⟨by rfl,?_⟩) ?_
    rotate_left
    ·(intro wx hSw; clear hSw; go_simp; try (with_reducible rfl))
    try simp only [Act.put,List.setIfInBounds_toArray,List.set_cons_zero,List.set_cons_succ]
    refine Zp (i:=8) (some 100) (v := ?_) (by decide) rfl rfl (by kernel_rfl) (by kernel_rfl) (by kernel_rfl) (fun _ _ _ h=>h) (Or.inl ⟨by rfl,?_⟩) (by assumption) ?_
    rotate_left
    ·(intro wx hSw; go_simp; try (with_reducible rfl))
    try simp only [Act.put,List.setIfInBounds_toArray,List.set_cons_zero,List.set_cons_succ]
    refine Zj (rs:=[9]) (by kernel_rfl) (by simp) ?_
    refine Zf.Qc rfl (by kernel_rfl) (fun K hK => ?_) Zf.nil
    go_simp
    refine (QY hpx hpy).mono ?_
    rintro _ wA ⟨rfl,hA⟩
    rw [hcv]
    go_wp2_with fail
    refine hK.out _ _ ?_
    clear hK K
    try simp only [Act.put,List.setIfInBounds_toArray,List.set_cons_zero,List.set_cons_succ]
    refine Zb (i:=10) (some 102) (v := ?_) rfl rfl (by kernel_rfl) (by kernel_rfl) (by kernel_rfl) (fun _ _ _ h=>h) (Or.inl ⟨by rfl,?_⟩) ?_
    rotate_left
    ·(intro wx hSw; clear hSw; go_simp; try (with_reducible rfl))
    try simp only [Act.put,List.setIfInBounds_toArray,List.set_cons_zero,List.set_cons_succ]
    refine Zb (i:=11) (some 103) (v := ?_) rfl rfl (by kernel_rfl) (by kernel_rfl) (by kernel_rfl) (fun _ _ _ h=>h) (Or.inl ⟨by rfl,?_⟩) ?_
    rotate_left
    ·(intro wx hSw; clear hSw; go_simp; try (with_reducible rfl))
    try simp only [Act.put,List.setIfInBounds_toArray,List.set_cons_zero,List.set_cons_succ]
    refine Zw (by kernel_rfl) ?_ _
    have hAA:=Lib.hid ((HA.out.Zi ((Chg.refl _ wq).drew)).Zi hA)
    have hcA:Chg (fun k=>k=g) w wA:=hcd.trans hA fun _ _ h=>h.elim
    clear d0 d1 d2 d3 e0 e1 e2 e3 hpx hpy v1 v2 v3 v4
    have HR3:=Lib.hid (HR2.out.trans (if_pos (by omega)))
    go_wp2_with fail
    go_roundw
    case rel=>exact ⟨I,h,by omega,by omega,by omega,rfl,rfl,hAA,Lib.hid ⟨f,by omega,HR3.out⟩,hcA⟩
    case measure=>simp [intOf]; omega
   ·go_wp2_with fail
    refine Zm [4,8] (S:=fun wx=>wx.cell? ⟨g,m*2,none⟩=some xv∧wx.cell? ⟨g,m*2+1,none⟩=some (.complex .f64 (fl xx.a) (fl xx.b))∧wx.cell? ⟨g,h*2,none⟩=some yv∧wx.cell? ⟨g,h*2+1,none⟩=some (.complex .f64 (fl yx.a) (fl yx.b))) (by kernel_rfl) ⟨d2,d3,d0,d1⟩ (fun hHeld => ?_)
    refine Zb (i:=0) (some 92) (v := ?_) rfl rfl (by kernel_rfl) (by kernel_rfl) (by kernel_rfl) (fun _ _ _ h=>h) (Or.inl ⟨by rfl,?_⟩) ?_
    rotate_left
    ·(intro wx hSw; clear hSw; go_simp; try (with_reducible rfl))
    try simp only [Act.put,List.setIfInBounds_toArray,List.set_cons_zero,List.set_cons_succ]
    refine Zb (i:=1) (some 93) (v := ?_) rfl rfl (by kernel_rfl) (by kernel_rfl) (by kernel_rfl) (fun _ _ _ h=>h) (Or.inl ⟨by rfl,?_⟩) ?_
    rotate_left
    ·(intro wx hSw; clear hSw; go_simp; try (with_reducible rfl))
    try simp only [Act.put,List.setIfInBounds_toArray,List.set_cons_zero,List.set_cons_succ]
    refine Zb (i:=2) (some 94) (v := ?_) rfl rfl (by kernel_rfl) (by kernel_rfl) (by kernel_rfl) (fun _ _ _ h=>h) (Or.inl ⟨by rfl,?_⟩) ?_
    rotate_left
    ·(intro wx hSw; clear hSw; go_simp; try (with_reducible rfl))
    try simp only [Act.put,List.setIfInBounds_toArray,List.set_cons_zero,List.set_cons_succ]
    refine Zb (i:=3) (some 95) (v := ?_) rfl rfl (by kernel_rfl) (by kernel_rfl) (by kernel_rfl) (fun _ _ _ h=>h) (Or.inl ⟨by rfl,?_⟩) ?_
    rotate_left
    ·(intro wx hSw; clear hSw; go_simp; try (with_reducible rfl))
    try simp only [Act.put,List.setIfInBounds_toArray,List.set_cons_zero,List.set_cons_succ]
    refine Zp (i:=4) (some 96) (v := ?_) (by decide) rfl rfl (by kernel_rfl) (by kernel_rfl) (by kernel_rfl) (fun _ _ _ h=>h) (Or.inl ⟨by rfl,?_⟩) (by assumption) ?_
    rotate_left
    ·(intro wx hSw; go_simp; try (with_reducible rfl))
    try simp only [Act.put,List.setIfInBounds_toArray,List.set_cons_zero,List.set_cons_succ]
    refine Zb (i:=5) (some 97) (v := ?_) rfl rfl (by kernel_rfl) (by kernel_rfl) (by kernel_rfl) (fun _ _ _ h=>h) (Or.inl ⟨by rfl,?_⟩) ?_
    rotate_left
    ·(intro wx hSw; clear hSw; go_simp; try (with_reducible rfl))
    try simp only [Act.put,List.setIfInBounds_toArray,List.set_cons_zero,List.set_cons_succ]
    refine Zb (i:=6) (some 98) (v := ?_) rfl rfl (by kernel_rfl) (by kernel_rfl) (by kernel_rfl) (fun _ _ _ h=>h) (Or.inl ⟨by rfl,?_⟩) ?_
    rotate_left
    ·(intro wx hSw; clear hSw; go_simp; try (with_reducible rfl))
    try simp only [Act.put,List.setIfInBounds_toArray,List.set_cons_zero,List.set_cons_succ]
    refine Zb (i:=7) (some 99) (v := ?_) rfl rfl (by kernel_rfl) (by kernel_rfl) (by kernel_rfl) (fun _ _ _ h=>h) (Or.inl ⟨by rfl,?_⟩) ?_
    rotate_left
    ·(intro wx hSw; clear hSw; go_simp; try (with_reducible rfl))
    try simp only [Act.put,List.setIfInBounds_toArray,List.set_cons_zero,List.set_cons_succ]
    refine Zp (i:=8) (some 100) (v := ?_) (by decide) rfl rfl (by kernel_rfl) (by kernel_rfl) (by kernel_rfl) (fun _ _ _ h=>h) (Or.inl ⟨by rfl,?_⟩) (by assumption) ?_
    rotate_left
    ·(intro wx hSw; go_simp; try (with_reducible rfl))
    try simp only [Act.put,List.setIfInBounds_toArray,List.set_cons_zero,List.set_cons_succ]
    refine Zj (rs:=[9]) (by kernel_rfl) (by simp) ?_
    refine Zf.Qc rfl (by kernel_rfl) (fun K hK => ?_) Zf.nil
    go_simp
    refine (QY hpx hpy).mono ?_
    rintro _ wA ⟨rfl,hA⟩
    rw [hcv]
    go_wp2_with fail
    refine hK.out _ _ ?_
    clear hK K
    try simp only [Act.put,List.setIfInBounds_toArray,List.set_cons_zero,List.set_cons_succ]
    refine Zb (i:=10) (some 102) (v := ?_) rfl rfl (by kernel_rfl) (by kernel_rfl) (by kernel_rfl) (fun _ _ _ h=>h) (Or.inl ⟨by rfl,?_⟩) ?_
    rotate_left
    ·(intro wx hSw; clear hSw; go_simp; try (with_reducible rfl))
    try simp only [Act.put,List.setIfInBounds_toArray,List.set_cons_zero,List.set_cons_succ]
    refine Zb (i:=11) (some 103) (v := ?_) rfl rfl (by kernel_rfl) (by kernel_rfl) (by kernel_rfl) (fun _ _ _ h=>h) (Or.inl ⟨by rfl,?_⟩) ?_
    rotate_left
    ·(intro wx hSw; clear hSw; go_simp; try (with_reducible rfl))
    try simp only [Act.put,List.setIfInBounds_toArray,List.set_cons_zero,List.set_cons_succ]
    refine Zw (by kernel_rfl) ?_ _
    have hAA:=Lib.hid ((HA.out.Zi ((Chg.refl _ wq).drew)).Zi hA)
    have hcA:Chg (fun k=>k=g) w wA:=hcd.trans hA fun _ _ h=>h.elim
    clear d0 d1 d2 d3 e0 e1 e2 e3 hpx hpy v1 v2 v3 v4
    have HR3:=Lib.hid (HR2.out.trans (if_neg (by omega)))
    have v7:IntKind.i64.wrap ((h:Int)+1)=((h+1:Nat):Int):=by rw [show (h:Int)+1=((h+1:Nat):Int) by omega]; exact IntWalk.i64_in _ (by omega)
    go_wp2_with fail
    go_roundw
    case rel=>exact ⟨h+1,J,by omega,by omega,by omega,by go_num,rfl,hAA,Lib.hid ⟨f,by omega,HR3.out⟩,hcA⟩
    case measure=>simp [intOf]; omega
    all_goals (exfalso; rename_i hx; simp at hx; omega)
  ·have hIJ:I=J:=by omega
   subst hIJ
   have hres:bs2 ps (xv,xx) ma a m=I:=by
    obtain ⟨f,hf,hR⟩:=HR.out
    rw [hR]
    cases f with
    | zero=>rfl
    | succ f=>rw [bs2,if_neg (by omega)]
   have HRES:=Lib.hid hres
   have hM:=HM.out
   clear hres
   go_wp2_with fail
   go_loopw [17] (fun x wr=>∃ (Q:Nat) (qs:List PI),I≤Q∧Q≤m∧x = .int .i64 Q∧Hid (qs.length=N)∧Hid (Arr wr g qs)∧Hid (XV (m-I) m ps=XV (Q-I) Q qs)∧Chg (fun k=>k=g) w wr) (fun x _=>(intOf x).toNat)
   case atStart=>exact ⟨m,ps,by omega,Nat.le_refl _,rfl,HN,HA,Lib.hid rfl,hcw⟩
   case round =>
    clear hcw HA
    obtain ⟨q1,qs,hQ1,hQ2,rfl,HL,HA,HU,hcw⟩:=hrel
    by_cases hlt2:I<q1
    ·obtain ⟨Q,hq1⟩:∃ m,m+1=q1:=⟨q1-1,by omega⟩
     obtain ⟨⟨yv,yx⟩,hy⟩:∃ p,qs[Q]? = some p:=⟨_,List.getElem?_eq_getElem (by rw [HL.out]; omega)⟩
     obtain ⟨⟨zv,zx⟩,hz⟩:∃ p,qs[q1]? = some p:=⟨_,List.getElem?_eq_getElem (by rw [HL.out]; omega)⟩
     have hAd:Arr wr.drew g qs:=HA.out.Zi ((Chg.refl _ wr).drew)
     obtain ⟨x2,x3,y2,y3⟩:=HA.out.cells hz
     obtain ⟨x0,x1,y0,y1⟩:=HA.out.cells hy
     obtain ⟨f2,f3,k2,k3⟩:=hAd.cells hz
     obtain ⟨f0,f1,k0,k1⟩:=hAd.cells hy
     have s1:=hAd.one hy
     have s2:=hAd.one hz
     have HW:=Lib.hid (hAd.swap hz hy)
     have HU2:=Lib.hid (HU.out.trans (show XV (q1-I) q1 qs=XV (Q-I) Q ((qs.set q1 (yv,yx)).set Q (zv,zx)) by rw [show q1-I=(Q-I)+1 by omega,XV,show q1-1=Q by omega,sw,hy,hz]))
     simp only at x0 x1 x2 x3 y0 y1 y2 y3 f0 f1 f2 f3 k0 k1 k2 k3 s1 s2
     have l1:Q<N:=by omega
     have l2:q1<N:=by omega
     have m1:¬ q1=Q:=by omega
     have m2:¬ Q=q1:=by omega
     have m3:¬ q1*2=Q*2+1:=by omega
     have m4:¬ Q*2+1=q1*2:=by omega
     have m5:¬ q1*2+1=Q*2:=by omega
     have m6:¬ Q*2=q1*2+1:=by omega
     have v7:IntKind.i64.wrap ((q1:Int)-1)=(Q:Int):=by rw [show (q1:Int)-1=(Q:Int) by omega]; exact IntWalk.i64_in _ (by omega)
     clear hAd hy hz HU
     go_wp2_with fail
     refine Zm [9,13] (S:=fun wx=>wx.cell? ⟨g,Q*2,none⟩=some yv∧wx.cell? ⟨g,Q*2+1,none⟩=some (.complex .f64 (fl yx.a) (fl yx.b))∧wx.cell? ⟨g,q1*2,none⟩=some zv∧wx.cell? ⟨g,q1*2+1,none⟩=some (.complex .f64 (fl zx.a) (fl zx.b))) (by kernel_rfl) ⟨f0,f1,f2,f3⟩ (fun hHeld => ?_)
     refine Zb (i:=0) (some 113) (v := ?_) rfl rfl (by kernel_rfl) (by kernel_rfl) (by kernel_rfl) (fun _ _ _ h=>h) (Or.inl ⟨by rfl,?_⟩) ?_
     rotate_left
     ·(intro wx hSw; clear hSw; go_simp; try (with_reducible rfl))
     try simp only [Act.put,List.setIfInBounds_toArray,List.set_cons_zero,List.set_cons_succ]
     refine Zb (i:=1) (some 114) (v := ?_) rfl rfl (by kernel_rfl) (by kernel_rfl) (by kernel_rfl) (fun _ _ _ h=>h) (Or.inl ⟨by rfl,?_⟩) ?_
     rotate_left
     ·(intro wx hSw; clear hSw; go_simp; try (with_reducible rfl))
     try simp only [Act.put,List.setIfInBounds_toArray,List.set_cons_zero,List.set_cons_succ]
     refine Zb (i:=2) (some 115) (v := ?_) rfl rfl (by kernel_rfl) (by kernel_rfl) (by kernel_rfl) (fun _ _ _ h=>h) (Or.inl ⟨by rfl,?_⟩) ?_
     rotate_left
     ·(intro wx hSw; clear hSw; go_simp; try (with_reducible rfl))
     try simp only [Act.put,List.setIfInBounds_toArray,List.set_cons_zero,List.set_cons_succ]
     refine Zb (i:=3) (some 116) (v := ?_) rfl rfl (by kernel_rfl) (by kernel_rfl) (by kernel_rfl) (fun _ _ _ h=>h) (Or.inl ⟨by rfl,?_⟩) ?_
     rotate_left
     ·(intro wx hSw; clear hSw; go_simp; try (with_reducible rfl))
     try simp only [Act.put,List.setIfInBounds_toArray,List.set_cons_zero,List.set_cons_succ]
     refine Zb (i:=4) (some 117) (v := ?_) rfl rfl (by kernel_rfl) (by kernel_rfl) (by kernel_rfl) (fun _ _ _ h=>h) (Or.inl ⟨by rfl,?_⟩) ?_
     rotate_left
     ·(intro wx hSw; clear hSw; go_simp; try (with_reducible rfl))
     try simp only [Act.put,List.setIfInBounds_toArray,List.set_cons_zero,List.set_cons_succ]
     refine Zb (i:=5) (some 118) (v := ?_) rfl rfl (by kernel_rfl) (by kernel_rfl) (by kernel_rfl) (fun _ _ _ h=>h) (Or.inl ⟨by rfl,?_⟩) ?_
     rotate_left
     ·(intro wx hSw; clear hSw; go_simp; try (with_reducible rfl))
     try simp only [Act.put,List.setIfInBounds_toArray,List.set_cons_zero,List.set_cons_succ]
     refine Zb (i:=6) (some 119) (v := ?_) rfl rfl (by kernel_rfl) (by kernel_rfl) (by kernel_rfl) (fun _ _ _ h=>h) (Or.inl ⟨by rfl,?_⟩) ?_
     rotate_left
     ·(intro wx hSw; clear hSw; go_simp; try (with_reducible rfl))
     try simp only [Act.put,List.setIfInBounds_toArray,List.set_cons_zero,List.set_cons_succ]
     refine Zb (i:=7) (some 120) (v := ?_) rfl rfl (by kernel_rfl) (by kernel_rfl) (by kernel_rfl) (fun _ _ _ h=>h) (Or.inl ⟨by rfl,?_⟩) ?_
     rotate_left
     ·(intro wx hSw; clear hSw; go_simp; try (with_reducible rfl))
     try simp only [Act.put,List.setIfInBounds_toArray,List.set_cons_zero,List.set_cons_succ]
     refine Zb (i:=8) (some 121) (v := ?_) rfl rfl (by kernel_rfl) (by kernel_rfl) (by kernel_rfl) (fun _ _ _ h=>h) (Or.inl ⟨by rfl,?_⟩) ?_
     rotate_left
     ·(intro wx hSw; clear hSw; go_simp; try (with_reducible rfl))
     try simp only [Act.put,List.setIfInBounds_toArray,List.set_cons_zero,List.set_cons_succ]
     refine Zp (i:=9) (some 122) (v := ?_) (by decide) rfl rfl (by kernel_rfl) (by kernel_rfl) (by kernel_rfl) (fun _ _ _ h=>h) (Or.inl ⟨by rfl,?_⟩) (by assumption) ?_
     rotate_left
     ·(intro wx hSw; go_simp; try (with_reducible rfl))
     try simp only [Act.put,List.setIfInBounds_toArray,List.set_cons_zero,List.set_cons_succ]
     refine Zb (i:=10) (some 123) (v := ?_) rfl rfl (by kernel_rfl) (by kernel_rfl) (by kernel_rfl) (fun _ _ _ h=>h) (Or.inl ⟨by rfl,?_⟩) ?_
     rotate_left
     ·(intro wx hSw; clear hSw; go_simp; try (with_reducible rfl))
     try simp only [Act.put,List.setIfInBounds_toArray,List.set_cons_zero,List.set_cons_succ]
     refine Zb (i:=11) (some 124) (v := ?_) rfl rfl (by kernel_rfl) (by kernel_rfl) (by kernel_rfl) (fun _ _ _ h=>h) (Or.inl ⟨by rfl,?_⟩) ?_
     rotate_left
     ·(intro wx hSw; clear hSw; go_simp; try (with_reducible rfl))
     try simp only [Act.put,List.setIfInBounds_toArray,List.set_cons_zero,List.set_cons_succ]
     refine Zb (i:=12) (some 125) (v := ?_) rfl rfl (by kernel_rfl) (by kernel_rfl) (by kernel_rfl) (fun _ _ _ h=>h) (Or.inl ⟨by rfl,?_⟩) ?_
     rotate_left
     ·(intro wx hSw; clear hSw; go_simp; try (with_reducible rfl))
     try simp only [Act.put,List.setIfInBounds_toArray,List.set_cons_zero,List.set_cons_succ]
     refine Zp (i:=13) (some 126) (v := ?_) (by decide) rfl rfl (by kernel_rfl) (by kernel_rfl) (by kernel_rfl) (fun _ _ _ h=>h) (Or.inl ⟨by rfl,?_⟩) (by assumption) ?_
     rotate_left
     ·(intro wx hSw; go_simp; try (with_reducible rfl))
     try simp only [Act.put,List.setIfInBounds_toArray,List.set_cons_zero,List.set_cons_succ]
     refine Zb (i:=14) (some 127) (v := ?_) rfl rfl (by kernel_rfl) (by kernel_rfl) (by kernel_rfl) (fun _ _ _ h=>h) (Or.inl ⟨by rfl,?_⟩) ?_
     rotate_left
     ·(intro wx hSw; clear hSw; go_simp; try (with_reducible rfl))
     try simp only [Act.put,List.setIfInBounds_toArray,List.set_cons_zero,List.set_cons_succ]
     refine Zj (rs:=[15]) (by kernel_rfl) (by simp) ?_
     refine Zf.Qc rfl (by kernel_rfl) (fun K hK => ?_) Zf.nil
     go_simp
     refine hK.out _ _ ?_
     clear hK K
     try simp only [Act.put,List.setIfInBounds_toArray,List.set_cons_zero,List.set_cons_succ]
     refine Zb (i:=16) (some 128) (v := ?_) rfl rfl (by kernel_rfl) (by kernel_rfl) (by kernel_rfl) (fun _ _ _ h=>h) (Or.inl ⟨by rfl,?_⟩) ?_
     rotate_left
     ·(intro wx hSw; clear hSw; go_simp; try (with_reducible rfl))
     try simp only [Act.put,List.setIfInBounds_toArray,List.set_cons_zero,List.set_cons_succ]
     refine Zj (rs:=[17]) (by kernel_rfl) (by simp) ?_
     refine Zf.Qc rfl (by kernel_rfl) (fun K hK => ?_) Zf.nil
     go_simp
     refine hK.out _ _ ?_
     clear hK K
     try simp only [Act.put,List.setIfInBounds_toArray,List.set_cons_zero,List.set_cons_succ]
     refine Zw (by kernel_rfl) ?_ _
     go_wp2_with fail
     go_roundw
     case rel =>
      refine ⟨Q,_,by omega,by omega,rfl,?_,HW,HU2,?_⟩
      ·exact Lib.hid (by simp; exact HL.out)
      ·exact (hcw.drew).trans (VB wr.drew g q1 Q (zv,zx) (yv,yx)) fun _ _ h=>h
     case measure=>simp [intOf]; omega
    ·have hge:¬ ((I:Int)<(q1:Int)):=by omega
     have e:q1-I=0:=by omega
     rw [e] at HU
     go_wp2_with fail
     (try simp only [Exit.inBlock,Exit.then])
     refine bodyPost_ret (results_none rfl _ _ _) rfl ?_
     exact ⟨rfl,by rw [HRES.out,HU.out]; exact HA.out,hcw⟩
end Go.Proofs.YtheflbaejhlboaaGreatDoor
namespace Go.Proofs.YtheflbaejhlboaaGreatDoor
def Vh:Nat→Nat→Nat→Nat→List PI→List PI
 | 0,_,_,_,ps=>ps
 | f+1,a,m,b,ps =>
  if a+1=m then (match ps[a]? with
   | some x=>upN (bs1 ps x (b-m) m b-1-a) a ps
   | none=>ps)
  else if m+1=b then (match ps[m]? with
   | some x=>XV (m-bs2 ps x (m-a) a m) m ps
   | none=>ps)
  else
   let mid:=(a+b) / 2
   let n:=mid+m
   let lo:=if mid<m then n-b else a
   let hi:=if mid<m then mid else m
   let st:=bs3 ps (n-1) (hi-lo) lo hi
   let en:=n-st
   let p1:=if st<m∧m<en then Kr (m-st+(en-m)) ps m (m-st) (en-m) else ps
   let p2:=if a<st∧st<mid then Vh f a st mid p1 else p1
   if mid<en∧en<b then Vh f mid en b p2 else p2
theorem Cn {ps:List PI} {i j:Nat} {z:PI} (h:z∈sw ps i j):z∈ps:=by
 unfold sw at h
 split at h
 ·rename_i p q hp hq
  exact Hr (List.mem_of_getElem? hq) (List.mem_of_getElem? hp) h
 ·exact h
theorem BF:∀ c k ps z,z∈upN c k ps→z∈ps
 | 0,_,_,_,h=>h
 | c+1,k,ps,z,h=>Cn (BF c (k+1) _ z h)
theorem NV:∀ c k ps z,z∈XV c k ps→z∈ps
 | 0,_,_,_,h=>h
 | c+1,k,ps,z,h=>Cn (NV c (k-1) _ z h)
theorem Wo (ps:List PI) (a b:Nat):∀ k z,z∈QZ ps a b k→z∈ps
 | 0,_,h=>h
 | k+1,z,h=>Wo ps a b k z (Cn h)
theorem XW:∀ f ps m i j z,z∈Kr f ps m i j→z∈ps
 | 0,_,_,_,_,_,h=>h
 | f+1,ps,m,i,j,z,h=>by
  rw [Kr] at h
  split at h
  ·exact Wo _ _ _ _ z h
  ·split at h
   ·exact Wo _ _ _ _ z (XW f _ _ _ _ z h)
   ·exact Wo _ _ _ _ z (XW f _ _ _ _ z h)
theorem Mf:∀ c k ps,(upN c k ps).length=ps.length
 | 0,_,_=>rfl
 | c+1,k,ps=>by rw [upN,Mf c,T4]
theorem Tu:∀ c k ps,(XV c k ps).length=ps.length
 | 0,_,_=>rfl
 | c+1,k,ps=>by rw [XV,Tu c,T4]
theorem JF:∀ f a m b ps,(Vh f a m b ps).length=ps.length
 | 0,_,_,_,_=>rfl
 | f+1,a,m,b,ps=>by
  rw [Vh]
  split
  ·split
   ·exact Mf _ _ _
   ·rfl
  ·split
   ·split
    ·exact Tu _ _ _
    ·rfl
   ·have h1:∀ (c:Prop) [Decidable c] (x y:List PI),x.length=ps.length→y.length=ps.length→(if c then x else y).length=ps.length:=fun c _ x y hx hy=>by split <;> assumption
    refine h1 _ _ _ ?_ ?_
    ·rw [JF f]
     refine h1 _ _ _ ?_ ?_
     ·rw [JF f]
      exact h1 _ _ _ (Q0 _ _ _ _ _) rfl
     ·exact h1 _ _ _ (Q0 _ _ _ _ _) rfl
    ·refine h1 _ _ _ ?_ ?_
     ·rw [JF f]
      exact h1 _ _ _ (Q0 _ _ _ _ _) rfl
     ·exact h1 _ _ _ (Q0 _ _ _ _ _) rfl
theorem KP:∀ f a m b ps z,z∈Vh f a m b ps→z∈ps
 | 0,_,_,_,_,_,h=>h
 | f+1,a,m,b,ps,z,h=>by
  rw [Vh] at h
  split at h
  ·split at h
   ·exact BF _ _ _ _ h
   ·exact h
  ·split at h
   ·split at h
    ·exact NV _ _ _ _ h
    ·exact h
   ·have h1:∀ (c:Prop) [Decidable c] (x y:List PI),z∈(if c then x else y)→(z∈x→z∈ps)→(z∈y→z∈ps)→z∈ps:=fun c _ x y hz hx hy=>by
     split at hz
     ·exact hx hz
     ·exact hy hz
    refine h1 _ _ _ h (fun h=>h1 _ _ _ (KP f _ _ _ _ z h) (fun h=>h1 _ _ _ (KP f _ _ _ _ z h) (fun h=>XW _ _ _ _ _ z h) fun h=>h) (fun h=>h1 _ _ _ h (fun h=>XW _ _ _ _ _ z h) fun h=>h))
     (fun h=>h1 _ _ _ h (fun h=>h1 _ _ _ (KP f _ _ _ _ z h) (fun h=>XW _ _ _ _ _ z h) fun h=>h) (fun h=>h1 _ _ _ h (fun h=>XW _ _ _ _ _ z h) fun h=>h))
end Go.Proofs.YtheflbaejhlboaaGreatDoor
