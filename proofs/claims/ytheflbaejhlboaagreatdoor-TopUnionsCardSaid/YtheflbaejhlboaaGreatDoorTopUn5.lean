/- A part of the proof of a law of package confluencetop: lemmas, no condition of ours. -/
import Derived.Test.YtheflbaejhlboaaGreatDoorTopUn4
set_option linter.unusedVariables false
set_option linter.unusedSectionVars false
set_option linter.unusedSimpArgs false
namespace Go.Proofs.YtheflbaejhlboaaGreatDoor
open Go.RowKit
set_option maxRecDepth 100000 in
set_option maxHeartbeats 16000000 in
theorem Mg {F:Nat→Prop} {g N cap:Nat} (hcap:N≤cap) (hm:N≤1000000000) (hF:¬ F g):∀ (fu:Nat) {w:World} {a m b:Nat} {ps:List PI},b-a≤fu→Arr w g ps→ps.length=N→a<m→m<b→b≤N→(∀ p∈ps,POk F w p) →
  Calls Tryz.prog 482 #[.slice (some ⟨g,0,none⟩) N cap,.int .i64 (a:Int),.int .i64 (m:Int),.int .i64 (b:Int),Ks] w fun e w'=>e = .returned (.tuple #[])∧Arr w' g (Vh fu a m b ps)∧Chg (fun k=>k=g) w w':=by
 intro fu
 induction fu with
 | zero=>intro w a m b ps h1 _ _ h2 h3; omega
 | succ fu ih =>
  intro w a m b ps hfu h hN ham hmb hb hp
  rw [Vh]
  by_cases e1:a+1=m
  ·rw [if_pos e1]
   obtain ⟨x0,hx0⟩:∃ x,ps[a]? = some x:=⟨_,List.getElem?_eq_getElem (by omega)⟩
   rw [hx0]
   exact U9 h hN hcap e1 hmb hb hm hp hF hx0
  rw [if_neg e1]
  by_cases e2:m+1=b
  ·rw [if_pos e2]
   obtain ⟨x0,hx0⟩:∃ x,ps[m]? = some x:=⟨_,List.getElem?_eq_getElem (by omega)⟩
   rw [hx0]
   exact Ea h hN hcap (by omega) e2 hb hm hp hF hx0
  rw [if_neg e2]
  simp only
  obtain ⟨mid,hmid⟩:∃ x,(a+b) / 2=x:=⟨_,rfl⟩
  rw [hmid]
  have b1:a<mid:=by omega
  have b2:mid<b:=by omega
  obtain ⟨n,hn⟩:∃ x,mid+m=x:=⟨_,rfl⟩
  rw [hn]
  obtain ⟨lo,hlo⟩:∃ x,(if mid<m then n-b else a)=x:=⟨_,rfl⟩
  obtain ⟨hi,hhi⟩:∃ x,(if mid<m then mid else m)=x:=⟨_,rfl⟩
  rw [hlo,hhi]
  obtain ⟨st,hst0⟩:∃ x,bs3 ps (n-1) (hi-lo) lo hi=x:=⟨_,rfl⟩
  rw [hst0]
  obtain ⟨en,hen⟩:∃ x,n-st=x:=⟨_,rfl⟩
  rw [hen]
  obtain ⟨p1,hp1⟩:∃ x,(if st<m∧m<en then Kr (m-st+(en-m)) ps m (m-st) (en-m) else ps)=x:=⟨_,rfl⟩
  rw [hp1]
  obtain ⟨p2,hp2⟩:∃ x,(if a<st∧st<mid then Vh fu a st mid p1 else p1)=x:=⟨_,rfl⟩
  rw [hp2]
  obtain ⟨p3,hp3⟩:∃ x,(if mid<en∧en<b then Vh fu mid en b p2 else p2)=x:=⟨_,rfl⟩
  rw [hp3]
  have hlh:lo≤hi:=by
   subst hlo; subst hhi
   split <;> omega
  have hidx:∀ c,lo≤c→c<hi→n-1-c<N∧c<N∧c<n:=by
   intro c h1 h2
   subst hlo; subst hhi
   split at h1 <;> split at h2 <;> omega
  have hl1:p1.length=N:=by
   subst hp1
   split
   ·rw [Q0,hN]
   ·exact hN
  have hl2:p2.length=N:=by
   subst hp2
   split
   ·rw [JF,hl1]
   ·exact hl1
  have hm1:∀ z∈p1,z∈ps:=by
   subst hp1
   split
   ·exact fun z h=>XW _ _ _ _ _ z h
   ·exact fun z h=>h
  have hm2:∀ z∈p2,z∈ps:=by
   subst hp2
   split
   ·exact fun z h=>hm1 z (KP _ _ _ _ _ z h)
   ·exact hm1
  have hlom:lo≤m∧hi≤m∧hi≤mid∧a≤lo:=by
   subst hlo; subst hhi
   split <;> omega
  have hr1:∀ W,Arr W g ps→st<m→m<en→en≤N→Calls Tryz.prog 550 #[.slice (some ⟨g,0,none⟩) N cap,.int .i64 (st:Int),.int .i64 (m:Int),.int .i64 (en:Int),Ks] W fun e w'=>e = .returned (.tuple #[])∧Arr w' g p1∧Chg (fun k=>k=g) W w':=fun W hA h1 h2 h3=>by
   have:=Hq (f:=Ks) hA hN hcap h1 h2 h3 hm
   rw [if_pos ⟨h1,h2⟩] at hp1
   rwa [hp1] at this
  have hr2:∀ W,Arr W g p1→Chg (fun k=>k=g) w W→a<st→st<mid→Calls Tryz.prog 482 #[.slice (some ⟨g,0,none⟩) N cap,.int .i64 (a:Int),.int .i64 (st:Int),.int .i64 (mid:Int),Ks] W fun e w'=>e = .returned (.tuple #[])∧Arr w' g p2∧Chg (fun k=>k=g) W w':=fun W hA hc h1 h2=>by
   have:=ih (w:=W) (a:=a) (m:=st) (b:=mid) (by omega) hA hl1 h1 h2 (by omega) fun p hp'=>(hp p (hm1 p hp')).chg hc fun b hb _ e=>hF (e▸hb)
   rw [if_pos ⟨h1,h2⟩] at hp2
   rwa [hp2] at this
  have hr3:∀ W,Arr W g p2→Chg (fun k=>k=g) w W→mid<en→en<b→Calls Tryz.prog 482 #[.slice (some ⟨g,0,none⟩) N cap,.int .i64 (mid:Int),.int .i64 (en:Int),.int .i64 (b:Int),Ks] W fun e w'=>e = .returned (.tuple #[])∧Arr w' g p3∧Chg (fun k=>k=g) W w':=fun W hA hc h1 h2=>by
   have:=ih (w:=W) (a:=mid) (m:=en) (b:=b) (by omega) hA hl2 h1 h2 hb fun p hp'=>(hp p (hm2 p hp')).chg hc fun b hb _ e=>hF (e▸hb)
   rw [if_pos ⟨h1,h2⟩] at hp3
   rwa [hp3] at this
  have q1:¬ (st<m∧m<en)→p1=ps:=fun h=>by rw [if_neg h] at hp1; exact hp1.symm
  have q2:¬ (a<st∧st<mid)→p2=p1:=fun h=>by rw [if_neg h] at hp2; exact hp2.symm
  have q3:¬ (mid<en∧en<b)→p3=p2:=fun h=>by rw [if_neg h] at hp3; exact hp3.symm
  have R1:=Lib.hid hr1
  have R2:=Lib.hid hr2
  have R3:=Lib.hid hr3
  have Q1:=Lib.hid q1
  have Q2:=Lib.hid q2
  have Q3:=Lib.hid q3
  have HN:=Lib.hid hN
  have HP:=Lib.hid hp
  have H:=Lib.hid h
  have HI:=Lib.hid hidx
  have HS:=Lib.hid hst0
  have HM:=Lib.hid hm
  clear hr1 hr2 hr3 q1 q2 q3 hN hp h hidx hst0 hp1 hp2 hp3 hl1 hl2 hm1 hm2 ih
  have HF:=Lib.hid hF
  obtain ⟨ma,hma⟩:∃ x,m-a=x:=⟨_,rfl⟩
  obtain ⟨bm,hbm⟩:∃ x,b-m=x:=⟨_,rfl⟩
  have w1:IntKind.i64.wrap ((m:Int)-(a:Int))=(ma:Int):=by rw [show (m:Int)-(a:Int)=(ma:Int) by omega]; exact IntWalk.i64_in _ (by omega)
  have w2:IntKind.i64.wrap ((b:Int)-(m:Int))=(bm:Int):=by rw [show (b:Int)-(m:Int)=(bm:Int) by omega]; exact IntWalk.i64_in _ (by omega)
  have z1:((ma:Int)==1)=false:=beq_eq_false_iff_ne.2 (by omega)
  have z2:((bm:Int)==1)=false:=beq_eq_false_iff_ne.2 (by omega)
  have z3:¬ ma=1:=by omega
  have z4:¬ bm=1:=by omega
  obtain ⟨ab,hab⟩:∃ x,a+b=x:=⟨_,rfl⟩
  have w3:IntKind.i64.wrap ((a:Int)+(b:Int))=(ab:Int):=by rw [show (a:Int)+(b:Int)=(ab:Int) by omega]; exact IntWalk.i64_in _ (by omega)
  have v2:IntKind.u64.wrap (ab:Int)=(ab:Int):=by rw [IntKind.wrap_u64]; omega
  have v4:IntKind.u64.wrap (mid:Int)=(mid:Int):=by rw [IntKind.wrap_u64]; omega
  have v5:IntKind.i64.wrap (mid:Int)=(mid:Int):=IntWalk.i64_in _ (by omega)
  have v3:(ab:Int) / 2=(mid:Int):=by omega
  have v6:ab / 2=mid:=by omega
  have w4:IntKind.i64.wrap ((mid:Int)+(m:Int))=(n:Int):=by rw [show (mid:Int)+(m:Int)=(n:Int) by omega]; exact IntWalk.i64_in _ (by omega)
  obtain ⟨n1,hn1⟩:∃ x,n-1=x:=⟨_,rfl⟩
  have w5:IntKind.i64.wrap ((n:Int)-1)=(n1:Int):=by rw [show (n:Int)-1=(n1:Int) by omega]; exact IntWalk.i64_in _ (by omega)
  have w6':mid<m→lo=n-b→IntKind.i64.wrap ((n:Int)-(b:Int))=(lo:Int):=fun h1 h2=>by rw [show (n:Int)-(b:Int)=(lo:Int) by omega]; exact IntWalk.i64_in _ (by omega)
  rw [hn1] at HS HI
  clear hm hF
  unfold Ks
  by_cases hmm:mid<m
  ·have hlo':lo=n-b:=by rw [← hlo,if_pos hmm]
   have hhi':hi=mid:=by rw [← hhi,if_pos hmm]
   have w6:=w6' hmm hlo'
   have hlb:n≤lo+b:=by omega
   have hlb2:lo+b≤n:=by omega
   clear w6'
   subst hhi'
   clear hlo hhi hlo'
   go_enter Tryz.func482,Tryz.ntmps482
   go_wp2_with fail
   go_loopw [20,21] (fun x y wr=>∃ (I J:Nat),lo≤I∧I≤J∧J≤hi∧x = .int .i64 I∧y = .int .i64 J∧Hid (Arr wr g ps)∧Hid (∃ f,J-I≤f∧st=bs3 ps n1 f I J)∧Chg (fun k=>k=g) w wr) (fun x y _=>(intOf y).toNat-(intOf x).toNat)
   case atStart=>exact ⟨lo,hi,Nat.le_refl _,hlh,Nat.le_refl _,rfl,rfl,H,Lib.hid ⟨hi-lo,Nat.le_refl _,HS.out.symm⟩,Chg.refl _ _⟩
   case round =>
    obtain ⟨I,J,hI1,hI2,hJ,rfl,rfl,HA,HR,hcw⟩:=hrel
    have hM:=HM.out
    by_cases hlt:I<J
    ·obtain ⟨f0,hf0,hR⟩:=HR.out
     obtain ⟨f,rfl⟩:∃ f,f0=f+1:=⟨f0-1,by omega⟩
     obtain ⟨h,hh⟩:∃ h,(I+J) / 2=h:=⟨_,rfl⟩
     have k1:I≤h:=by omega
     have k2:h<J:=by omega
     obtain ⟨j1,j2,j3⟩:=HI.out h (by omega) (by omega)
     obtain ⟨e,he⟩:∃ x,n1-h=x:=⟨_,rfl⟩
     rw [he] at j1
     obtain ⟨⟨yv,yx⟩,hy⟩:∃ p,ps[h]? = some p:=⟨_,List.getElem?_eq_getElem (by rw [HN.out]; omega)⟩
     obtain ⟨⟨xv,xx⟩,hx⟩:∃ p,ps[e]? = some p:=⟨_,List.getElem?_eq_getElem (by rw [HN.out]; omega)⟩
     rw [bs3,if_pos hlt,hh,he,hy,hx] at hR
     simp only at hR
     have ha:Arr wr.drew g ps:=HA.out.Zi ((Chg.refl _ wr).drew)
     obtain ⟨d0,d1,e0,e1'⟩:=ha.cells hy
     obtain ⟨d2,d3,e2',e3'⟩:=ha.cells hx
     have hcd:=hcw.drew
     have hpy:POk F wr.drew (yv,yx):=(HP.out _ (List.mem_of_getElem? hy)).chg hcd fun k hk _ e=>HF.out (e▸hk)
     have hpx:POk F wr.drew (xv,xx):=(HP.out _ (List.mem_of_getElem? hx)).chg hcd fun k hk _ e=>HF.out (e▸hk)
     obtain ⟨cv,hcv⟩:∃ c,J3 (xv,xx) (yv,yx)=c:=⟨_,rfl⟩
     rw [hcv] at hR
     have HR2:=Lib.hid hR
     simp only at d0 d1 d2 d3
     have x1:IntKind.i64.wrap ((I:Int)+(J:Int))=((I+J:Nat):Int):=by rw [show (I:Int)+(J:Int)=((I+J:Nat):Int) by omega]; exact IntWalk.i64_in _ (by omega)
     obtain ⟨ij,hij⟩:∃ m,I+J=m:=⟨_,rfl⟩
     rw [hij] at x1 hh
     have x2:IntKind.u64.wrap (ij:Int)=(ij:Int):=by rw [IntKind.wrap_u64]; omega
     have x4:IntKind.u64.wrap (h:Int)=(h:Int):=by rw [IntKind.wrap_u64]; omega
     have x5:IntKind.i64.wrap (h:Int)=(h:Int):=IntWalk.i64_in _ (by omega)
     have x3:(ij:Int) / 2=(h:Int):=by omega
     have x6:ij / 2=h:=hh
     have x7:IntKind.i64.wrap ((n1:Int)-(h:Int))=(e:Int):=by rw [show (n1:Int)-(h:Int)=(e:Int) by omega]; exact IntWalk.i64_in _ (by omega)
     clear hR hy hx ha hij hh he e0 e1' e2' e3' R1 R2 R3 Q1 Q2 Q3 w1 w2 w3 v2 v4 v5 v3 v6 w4 w5
     by_cases hneg:cv<0
     ·have HR3:=Lib.hid (HR2.out.trans (if_pos hneg))
      clear HR2
      go_wp2_with fail
      refine Zm [6,10] (S:=fun wx=>wx.cell? ⟨g,e*2,none⟩=some xv∧wx.cell? ⟨g,e*2+1,none⟩=some (.complex .f64 (fl xx.a) (fl xx.b))∧wx.cell? ⟨g,h*2,none⟩=some yv∧wx.cell? ⟨g,h*2+1,none⟩=some (.complex .f64 (fl yx.a) (fl yx.b))) (by kernel_rfl) ⟨d2,d3,d0,d1⟩ (fun hHeld => ?_)
      refine Zb (i:=0) (some 158) (v := ?_) rfl rfl (by kernel_rfl) (by kernel_rfl) (by kernel_rfl) (fun _ _ _ h=>h) (Or.inl ⟨by rfl,?_⟩) ?_
      rotate_left
      ·(intro wx hSw; clear hSw; go_simp; try (with_reducible rfl))
      try simp only [Act.put,List.setIfInBounds_toArray,List.set_cons_zero,List.set_cons_succ]
      refine Zb (i:=1) (some 159) (v := ?_) rfl rfl (by kernel_rfl) (by kernel_rfl) (by kernel_rfl) (fun _ _ _ h=>h) (Or.inl ⟨by rfl,?_⟩) ?_
      rotate_left
      ·(intro wx hSw; clear hSw; go_simp; try (with_reducible rfl))
      try simp only [Act.put,List.setIfInBounds_toArray,List.set_cons_zero,List.set_cons_succ]
      refine Zb (i:=2) (some 160) (v := ?_) rfl rfl (by kernel_rfl) (by kernel_rfl) (by kernel_rfl) (fun _ _ _ h=>h) (Or.inl ⟨by rfl,?_⟩) ?_
      rotate_left
      ·(intro wx hSw; clear hSw; go_simp; try (with_reducible rfl))
      try simp only [Act.put,List.setIfInBounds_toArray,List.set_cons_zero,List.set_cons_succ]
      refine Zb (i:=3) (some 161) (v := ?_) rfl rfl (by kernel_rfl) (by kernel_rfl) (by kernel_rfl) (fun _ _ _ h=>h) (Or.inl ⟨by rfl,?_⟩) ?_
      rotate_left
      ·(intro wx hSw; clear hSw; go_simp; try (with_reducible rfl))
      try simp only [Act.put,List.setIfInBounds_toArray,List.set_cons_zero,List.set_cons_succ]
      refine Zb (i:=4) (some 162) (v := ?_) rfl rfl (by kernel_rfl) (by kernel_rfl) (by kernel_rfl) (fun _ _ _ h=>h) (Or.inl ⟨by rfl,?_⟩) ?_
      rotate_left
      ·(intro wx hSw; clear hSw; go_simp; try (with_reducible rfl))
      try simp only [Act.put,List.setIfInBounds_toArray,List.set_cons_zero,List.set_cons_succ]
      refine Zb (i:=5) (some 163) (v := ?_) rfl rfl (by kernel_rfl) (by kernel_rfl) (by kernel_rfl) (fun _ _ _ h=>h) (Or.inl ⟨by rfl,?_⟩) ?_
      rotate_left
      ·(intro wx hSw; clear hSw; go_simp; try (with_reducible rfl))
      try simp only [Act.put,List.setIfInBounds_toArray,List.set_cons_zero,List.set_cons_succ]
      refine Zp (i:=6) (some 164) (v := ?_) (by decide) rfl rfl (by kernel_rfl) (by kernel_rfl) (by kernel_rfl) (fun _ _ _ h=>h) (Or.inl ⟨by rfl,?_⟩) (by assumption) ?_
      rotate_left
      ·(intro wx hSw; go_simp; try (with_reducible rfl))
      try simp only [Act.put,List.setIfInBounds_toArray,List.set_cons_zero,List.set_cons_succ]
      refine Zb (i:=7) (some 165) (v := ?_) rfl rfl (by kernel_rfl) (by kernel_rfl) (by kernel_rfl) (fun _ _ _ h=>h) (Or.inl ⟨by rfl,?_⟩) ?_
      rotate_left
      ·(intro wx hSw; clear hSw; go_simp; try (with_reducible rfl))
      try simp only [Act.put,List.setIfInBounds_toArray,List.set_cons_zero,List.set_cons_succ]
      refine Zb (i:=8) (some 166) (v := ?_) rfl rfl (by kernel_rfl) (by kernel_rfl) (by kernel_rfl) (fun _ _ _ h=>h) (Or.inl ⟨by rfl,?_⟩) ?_
      rotate_left
      ·(intro wx hSw; clear hSw; go_simp; try (with_reducible rfl))
      try simp only [Act.put,List.setIfInBounds_toArray,List.set_cons_zero,List.set_cons_succ]
      refine Zb (i:=9) (some 167) (v := ?_) rfl rfl (by kernel_rfl) (by kernel_rfl) (by kernel_rfl) (fun _ _ _ h=>h) (Or.inl ⟨by rfl,?_⟩) ?_
      rotate_left
      ·(intro wx hSw; clear hSw; go_simp; try (with_reducible rfl))
      try simp only [Act.put,List.setIfInBounds_toArray,List.set_cons_zero,List.set_cons_succ]
      refine Zp (i:=10) (some 168) (v := ?_) (by decide) rfl rfl (by kernel_rfl) (by kernel_rfl) (by kernel_rfl) (fun _ _ _ h=>h) (Or.inl ⟨by rfl,?_⟩) (by assumption) ?_
      rotate_left
      ·(intro wx hSw; go_simp; try (with_reducible rfl))
      try simp only [Act.put,List.setIfInBounds_toArray,List.set_cons_zero,List.set_cons_succ]
      refine Zj (rs:=[11]) (by kernel_rfl) (by simp) ?_
      refine Zf.Qc rfl (by kernel_rfl) (fun K hK => ?_) Zf.nil
      go_simp
      refine (QY hpx hpy).mono ?_
      rintro _ wA ⟨rfl,hA⟩
      rw [hcv]
      go_wp2_with fail
      refine hK.out _ _ ?_
      clear hK K
      try simp only [Act.put,List.setIfInBounds_toArray,List.set_cons_zero,List.set_cons_succ]
      refine Zb (i:=12) (some 170) (v := ?_) rfl rfl (by kernel_rfl) (by kernel_rfl) (by kernel_rfl) (fun _ _ _ h=>h) (Or.inl ⟨by rfl,?_⟩) ?_
      rotate_left
      ·(intro wx hSw; clear hSw; go_simp; try (with_reducible rfl))
      try simp only [Act.put,List.setIfInBounds_toArray,List.set_cons_zero,List.set_cons_succ]
      refine Zb (i:=13) (some 171) (v := ?_) rfl rfl (by kernel_rfl) (by kernel_rfl) (by kernel_rfl) (fun _ _ _ h=>h) (Or.inl ⟨by rfl,?_⟩) ?_
      rotate_left
      ·(intro wx hSw; clear hSw; go_simp; try (with_reducible rfl))
      try simp only [Act.put,List.setIfInBounds_toArray,List.set_cons_zero,List.set_cons_succ]
      refine Zw (by kernel_rfl) ?_ _
      have hAA:=Lib.hid ((HA.out.Zi ((Chg.refl _ wr).drew)).Zi hA)
      have hcA:Chg (fun k=>k=g) w wA:=hcd.trans hA fun _ _ h=>h.elim
      clear d0 d1 d2 d3 hpx hpy x1 x2 x3 x4
      go_wp2_with fail
      go_roundw
      case rel=>exact ⟨I,h,by omega,by omega,by omega,rfl,rfl,hAA,Lib.hid ⟨f,by omega,HR3.out⟩,hcA⟩
      case measure=>simp [intOf]; omega
      all_goals (exfalso; rename_i hx; simp at hx; omega)
     ·have HR3:=Lib.hid (HR2.out.trans (if_neg hneg))
      have x8:IntKind.i64.wrap ((h:Int)+1)=((h+1:Nat):Int):=by rw [show (h:Int)+1=((h+1:Nat):Int) by omega]; exact IntWalk.i64_in _ (by omega)
      clear HR2
      go_wp2_with fail
      refine Zm [6,10] (S:=fun wx=>wx.cell? ⟨g,e*2,none⟩=some xv∧wx.cell? ⟨g,e*2+1,none⟩=some (.complex .f64 (fl xx.a) (fl xx.b))∧wx.cell? ⟨g,h*2,none⟩=some yv∧wx.cell? ⟨g,h*2+1,none⟩=some (.complex .f64 (fl yx.a) (fl yx.b))) (by kernel_rfl) ⟨d2,d3,d0,d1⟩ (fun hHeld => ?_)
      refine Zb (i:=0) (some 158) (v := ?_) rfl rfl (by kernel_rfl) (by kernel_rfl) (by kernel_rfl) (fun _ _ _ h=>h) (Or.inl ⟨by rfl,?_⟩) ?_
      rotate_left
      ·(intro wx hSw; clear hSw; go_simp; try (with_reducible rfl))
      try simp only [Act.put,List.setIfInBounds_toArray,List.set_cons_zero,List.set_cons_succ]
      refine Zb (i:=1) (some 159) (v := ?_) rfl rfl (by kernel_rfl) (by kernel_rfl) (by kernel_rfl) (fun _ _ _ h=>h) (Or.inl ⟨by rfl,?_⟩) ?_
      rotate_left
      ·(intro wx hSw; clear hSw; go_simp; try (with_reducible rfl))
      try simp only [Act.put,List.setIfInBounds_toArray,List.set_cons_zero,List.set_cons_succ]
      refine Zb (i:=2) (some 160) (v := ?_) rfl rfl (by kernel_rfl) (by kernel_rfl) (by kernel_rfl) (fun _ _ _ h=>h) (Or.inl ⟨by rfl,?_⟩) ?_
      rotate_left
      ·(intro wx hSw; clear hSw; go_simp; try (with_reducible rfl))
      try simp only [Act.put,List.setIfInBounds_toArray,List.set_cons_zero,List.set_cons_succ]
      refine Zb (i:=3) (some 161) (v := ?_) rfl rfl (by kernel_rfl) (by kernel_rfl) (by kernel_rfl) (fun _ _ _ h=>h) (Or.inl ⟨by rfl,?_⟩) ?_
      rotate_left
      ·(intro wx hSw; clear hSw; go_simp; try (with_reducible rfl))
      try simp only [Act.put,List.setIfInBounds_toArray,List.set_cons_zero,List.set_cons_succ]
      refine Zb (i:=4) (some 162) (v := ?_) rfl rfl (by kernel_rfl) (by kernel_rfl) (by kernel_rfl) (fun _ _ _ h=>h) (Or.inl ⟨by rfl,?_⟩) ?_
      rotate_left
      ·(intro wx hSw; clear hSw; go_simp; try (with_reducible rfl))
      try simp only [Act.put,List.setIfInBounds_toArray,List.set_cons_zero,List.set_cons_succ]
      refine Zb (i:=5) (some 163) (v := ?_) rfl rfl (by kernel_rfl) (by kernel_rfl) (by kernel_rfl) (fun _ _ _ h=>h) (Or.inl ⟨by rfl,?_⟩) ?_
      rotate_left
      ·(intro wx hSw; clear hSw; go_simp; try (with_reducible rfl))
      try simp only [Act.put,List.setIfInBounds_toArray,List.set_cons_zero,List.set_cons_succ]
      refine Zp (i:=6) (some 164) (v := ?_) (by decide) rfl rfl (by kernel_rfl) (by kernel_rfl) (by kernel_rfl) (fun _ _ _ h=>h) (Or.inl ⟨by rfl,?_⟩) (by assumption) ?_
      rotate_left
      ·(intro wx hSw; go_simp; try (with_reducible rfl))
      try simp only [Act.put,List.setIfInBounds_toArray,List.set_cons_zero,List.set_cons_succ]
      refine Zb (i:=7) (some 165) (v := ?_) rfl rfl (by kernel_rfl) (by kernel_rfl) (by kernel_rfl) (fun _ _ _ h=>h) (Or.inl ⟨by rfl,?_⟩) ?_
      rotate_left
      ·(intro wx hSw; clear hSw; go_simp; try (with_reducible rfl))
      try simp only [Act.put,List.setIfInBounds_toArray,List.set_cons_zero,List.set_cons_succ]
      refine Zb (i:=8) (some 166) (v := ?_) rfl rfl (by kernel_rfl) (by kernel_rfl) (by kernel_rfl) (fun _ _ _ h=>h) (Or.inl ⟨by rfl,?_⟩) ?_
      rotate_left
      ·(intro wx hSw; clear hSw; go_simp; try (with_reducible rfl))
      try simp only [Act.put,List.setIfInBounds_toArray,List.set_cons_zero,List.set_cons_succ]
      refine Zb (i:=9) (some 167) (v := ?_) rfl rfl (by kernel_rfl) (by kernel_rfl) (by kernel_rfl) (fun _ _ _ h=>h) (Or.inl ⟨by rfl,?_⟩) ?_
      rotate_left
      ·(intro wx hSw; clear hSw; go_simp; try (with_reducible rfl))
      try simp only [Act.put,List.setIfInBounds_toArray,List.set_cons_zero,List.set_cons_succ]
      refine Zp (i:=10) (some 168) (v := ?_) (by decide) rfl rfl (by kernel_rfl) (by kernel_rfl) (by kernel_rfl) (fun _ _ _ h=>h) (Or.inl ⟨by rfl,?_⟩) (by assumption) ?_
      rotate_left
      ·(intro wx hSw; go_simp; try (with_reducible rfl))
      try simp only [Act.put,List.setIfInBounds_toArray,List.set_cons_zero,List.set_cons_succ]
      refine Zj (rs:=[11]) (by kernel_rfl) (by simp) ?_
      refine Zf.Qc rfl (by kernel_rfl) (fun K hK => ?_) Zf.nil
      go_simp
      refine (QY hpx hpy).mono ?_
      rintro _ wA ⟨rfl,hA⟩
      rw [hcv]
      go_wp2_with fail
      refine hK.out _ _ ?_
      clear hK K
      try simp only [Act.put,List.setIfInBounds_toArray,List.set_cons_zero,List.set_cons_succ]
      refine Zb (i:=12) (some 170) (v := ?_) rfl rfl (by kernel_rfl) (by kernel_rfl) (by kernel_rfl) (fun _ _ _ h=>h) (Or.inl ⟨by rfl,?_⟩) ?_
      rotate_left
      ·(intro wx hSw; clear hSw; go_simp; try (with_reducible rfl))
      try simp only [Act.put,List.setIfInBounds_toArray,List.set_cons_zero,List.set_cons_succ]
      refine Zb (i:=13) (some 171) (v := ?_) rfl rfl (by kernel_rfl) (by kernel_rfl) (by kernel_rfl) (fun _ _ _ h=>h) (Or.inl ⟨by rfl,?_⟩) ?_
      rotate_left
      ·(intro wx hSw; clear hSw; go_simp; try (with_reducible rfl))
      try simp only [Act.put,List.setIfInBounds_toArray,List.set_cons_zero,List.set_cons_succ]
      refine Zw (by kernel_rfl) ?_ _
      have hAA:=Lib.hid ((HA.out.Zi ((Chg.refl _ wr).drew)).Zi hA)
      have hcA:Chg (fun k=>k=g) w wA:=hcd.trans hA fun _ _ h=>h.elim
      clear d0 d1 d2 d3 hpx hpy x1 x2 x3 x4
      go_wp2_with fail
      go_roundw
      case rel=>exact ⟨h+1,J,by omega,by omega,by omega,by go_num,rfl,hAA,Lib.hid ⟨f,by omega,HR3.out⟩,hcA⟩
      case measure=>simp [intOf]; omega
      all_goals (exfalso; rename_i hx; simp at hx; omega)
    ·have hIJ:I=J:=by omega
     subst hIJ
     have hres:st=I:=by
      obtain ⟨f,hf,hR⟩:=HR.out
      rw [hR]
      cases f with
      | zero=>rfl
      | succ f=>rw [bs3,if_neg (by omega)]
     subst hres
     have w7:IntKind.i64.wrap ((n:Int)-(st:Int))=(en:Int):=by rw [show (n:Int)-(st:Int)=(en:Int) by omega]; exact IntWalk.i64_in _ (by omega)
     have hM2:=HM.out
     clear HR w1 w2 w3 v2 v4 v5 v3 v6 w4 w5 HI HS
     have g1:st<m:=by omega
     by_cases g2:m<en
     ·have g3:en≤N:=by omega
      go_wp2_with fail
      refine (R1.out _ HA.out g1 g2 g3).mono ?_
      rintro _ wX ⟨rfl,hAX,hcX⟩
      have HAX:=Lib.hid hAX
      have hcX2:=hcw.trans hcX fun _ _ h=>h
      clear hAX hcX
      by_cases c6:a<st
      ·by_cases c7:st<hi
       ·go_wp2_with fail
        refine (R2.out _ HAX.out hcX2 c6 c7).mono ?_
        rintro _ wY ⟨rfl,hAY,hcY⟩
        have HAY:=Lib.hid hAY
        have hcY2:=hcX2.trans hcY fun _ _ h=>h
        clear hAY hcY
        by_cases c4:hi<en
        ·by_cases c5:en<b
         ·go_wp2_with fail
          refine (R3.out _ HAY.out hcY2 c4 c5).mono ?_
          rintro _ wZ ⟨rfl,hAZ,hcZ⟩
          have HAZ:=Lib.hid hAZ
          clear hAZ
          go_wp2_with fail
          go_end0
          exact ⟨rfl,HAZ.out,hcY2.trans hcZ fun _ _ h=>h⟩
         ·have HAZ:Hid (Arr wY g p3):=Lib.hid ((Q3.out fun h=>c5 h.2)▸HAY.out)
          go_wp2_with fail
          go_end0
          exact ⟨rfl,HAZ.out,hcY2⟩
        ·have HAZ:Hid (Arr wY g p3):=Lib.hid ((Q3.out fun h=>c4 h.1)▸HAY.out)
         go_wp2_with fail
         go_end0
         exact ⟨rfl,HAZ.out,hcY2⟩
       ·have HAY:Hid (Arr wX g p2):=Lib.hid ((Q2.out fun h=>c7 h.2)▸HAX.out)
        by_cases c4:hi<en
        ·by_cases c5:en<b
         ·go_wp2_with fail
          refine (R3.out _ HAY.out hcX2 c4 c5).mono ?_
          rintro _ wZ ⟨rfl,hAZ,hcZ⟩
          have HAZ:=Lib.hid hAZ
          clear hAZ
          go_wp2_with fail
          go_end0
          exact ⟨rfl,HAZ.out,hcX2.trans hcZ fun _ _ h=>h⟩
         ·have HAZ:Hid (Arr wX g p3):=Lib.hid ((Q3.out fun h=>c5 h.2)▸HAY.out)
          go_wp2_with fail
          go_end0
          exact ⟨rfl,HAZ.out,hcX2⟩
        ·have HAZ:Hid (Arr wX g p3):=Lib.hid ((Q3.out fun h=>c4 h.1)▸HAY.out)
         go_wp2_with fail
         go_end0
         exact ⟨rfl,HAZ.out,hcX2⟩
      ·have HAY:Hid (Arr wX g p2):=Lib.hid ((Q2.out fun h=>c6 h.1)▸HAX.out)
       by_cases c4:hi<en
       ·by_cases c5:en<b
        ·go_wp2_with fail
         refine (R3.out _ HAY.out hcX2 c4 c5).mono ?_
         rintro _ wZ ⟨rfl,hAZ,hcZ⟩
         have HAZ:=Lib.hid hAZ
         clear hAZ
         go_wp2_with fail
         go_end0
         exact ⟨rfl,HAZ.out,hcX2.trans hcZ fun _ _ h=>h⟩
        ·have HAZ:Hid (Arr wX g p3):=Lib.hid ((Q3.out fun h=>c5 h.2)▸HAY.out)
         go_wp2_with fail
         go_end0
         exact ⟨rfl,HAZ.out,hcX2⟩
       ·have HAZ:Hid (Arr wX g p3):=Lib.hid ((Q3.out fun h=>c4 h.1)▸HAY.out)
        go_wp2_with fail
        go_end0
        exact ⟨rfl,HAZ.out,hcX2⟩
     ·have HAX:Hid (Arr wr g p1):=Lib.hid ((Q1.out fun h=>g2 h.2)▸HA.out)
      by_cases c6:a<st
      ·by_cases c7:st<hi
       ·go_wp2_with fail
        refine (R2.out _ HAX.out hcw c6 c7).mono ?_
        rintro _ wY ⟨rfl,hAY,hcY⟩
        have HAY:=Lib.hid hAY
        have hcY2:=hcw.trans hcY fun _ _ h=>h
        clear hAY hcY
        by_cases c4:hi<en
        ·by_cases c5:en<b
         ·go_wp2_with fail
          refine (R3.out _ HAY.out hcY2 c4 c5).mono ?_
          rintro _ wZ ⟨rfl,hAZ,hcZ⟩
          have HAZ:=Lib.hid hAZ
          clear hAZ
          go_wp2_with fail
          go_end0
          exact ⟨rfl,HAZ.out,hcY2.trans hcZ fun _ _ h=>h⟩
         ·have HAZ:Hid (Arr wY g p3):=Lib.hid ((Q3.out fun h=>c5 h.2)▸HAY.out)
          go_wp2_with fail
          go_end0
          exact ⟨rfl,HAZ.out,hcY2⟩
        ·have HAZ:Hid (Arr wY g p3):=Lib.hid ((Q3.out fun h=>c4 h.1)▸HAY.out)
         go_wp2_with fail
         go_end0
         exact ⟨rfl,HAZ.out,hcY2⟩
       ·have HAY:Hid (Arr wr g p2):=Lib.hid ((Q2.out fun h=>c7 h.2)▸HAX.out)
        by_cases c4:hi<en
        ·by_cases c5:en<b
         ·go_wp2_with fail
          refine (R3.out _ HAY.out hcw c4 c5).mono ?_
          rintro _ wZ ⟨rfl,hAZ,hcZ⟩
          have HAZ:=Lib.hid hAZ
          clear hAZ
          go_wp2_with fail
          go_end0
          exact ⟨rfl,HAZ.out,hcw.trans hcZ fun _ _ h=>h⟩
         ·have HAZ:Hid (Arr wr g p3):=Lib.hid ((Q3.out fun h=>c5 h.2)▸HAY.out)
          go_wp2_with fail
          go_end0
          exact ⟨rfl,HAZ.out,hcw⟩
        ·have HAZ:Hid (Arr wr g p3):=Lib.hid ((Q3.out fun h=>c4 h.1)▸HAY.out)
         go_wp2_with fail
         go_end0
         exact ⟨rfl,HAZ.out,hcw⟩
      ·have HAY:Hid (Arr wr g p2):=Lib.hid ((Q2.out fun h=>c6 h.1)▸HAX.out)
       by_cases c4:hi<en
       ·by_cases c5:en<b
        ·go_wp2_with fail
         refine (R3.out _ HAY.out hcw c4 c5).mono ?_
         rintro _ wZ ⟨rfl,hAZ,hcZ⟩
         have HAZ:=Lib.hid hAZ
         clear hAZ
         go_wp2_with fail
         go_end0
         exact ⟨rfl,HAZ.out,hcw.trans hcZ fun _ _ h=>h⟩
        ·have HAZ:Hid (Arr wr g p3):=Lib.hid ((Q3.out fun h=>c5 h.2)▸HAY.out)
         go_wp2_with fail
         go_end0
         exact ⟨rfl,HAZ.out,hcw⟩
       ·have HAZ:Hid (Arr wr g p3):=Lib.hid ((Q3.out fun h=>c4 h.1)▸HAY.out)
        go_wp2_with fail
        go_end0
        exact ⟨rfl,HAZ.out,hcw⟩
  ·have hlo':lo=a:=by rw [← hlo,if_neg hmm]
   have hhi':hi=m:=by rw [← hhi,if_neg hmm]
   subst hhi'
   subst hlo'
   clear hlo hhi w6'
   go_enter Tryz.func482,Tryz.ntmps482
   go_wp2_with fail
   go_loopw [20,21] (fun x y wr=>∃ (I J:Nat),lo≤I∧I≤J∧J≤hi∧x = .int .i64 I∧y = .int .i64 J∧Hid (Arr wr g ps)∧Hid (∃ f,J-I≤f∧st=bs3 ps n1 f I J)∧Chg (fun k=>k=g) w wr) (fun x y _=>(intOf y).toNat-(intOf x).toNat)
   case atStart=>exact ⟨lo,hi,Nat.le_refl _,hlh,Nat.le_refl _,rfl,rfl,H,Lib.hid ⟨hi-lo,Nat.le_refl _,HS.out.symm⟩,Chg.refl _ _⟩
   case round =>
    obtain ⟨I,J,hI1,hI2,hJ,rfl,rfl,HA,HR,hcw⟩:=hrel
    have hM:=HM.out
    by_cases hlt:I<J
    ·obtain ⟨f0,hf0,hR⟩:=HR.out
     obtain ⟨f,rfl⟩:∃ f,f0=f+1:=⟨f0-1,by omega⟩
     obtain ⟨h,hh⟩:∃ h,(I+J) / 2=h:=⟨_,rfl⟩
     have k1:I≤h:=by omega
     have k2:h<J:=by omega
     obtain ⟨j1,j2,j3⟩:=HI.out h (by omega) (by omega)
     obtain ⟨e,he⟩:∃ x,n1-h=x:=⟨_,rfl⟩
     rw [he] at j1
     obtain ⟨⟨yv,yx⟩,hy⟩:∃ p,ps[h]? = some p:=⟨_,List.getElem?_eq_getElem (by rw [HN.out]; omega)⟩
     obtain ⟨⟨xv,xx⟩,hx⟩:∃ p,ps[e]? = some p:=⟨_,List.getElem?_eq_getElem (by rw [HN.out]; omega)⟩
     rw [bs3,if_pos hlt,hh,he,hy,hx] at hR
     simp only at hR
     have ha:Arr wr.drew g ps:=HA.out.Zi ((Chg.refl _ wr).drew)
     obtain ⟨d0,d1,e0,e1'⟩:=ha.cells hy
     obtain ⟨d2,d3,e2',e3'⟩:=ha.cells hx
     have hcd:=hcw.drew
     have hpy:POk F wr.drew (yv,yx):=(HP.out _ (List.mem_of_getElem? hy)).chg hcd fun k hk _ e=>HF.out (e▸hk)
     have hpx:POk F wr.drew (xv,xx):=(HP.out _ (List.mem_of_getElem? hx)).chg hcd fun k hk _ e=>HF.out (e▸hk)
     obtain ⟨cv,hcv⟩:∃ c,J3 (xv,xx) (yv,yx)=c:=⟨_,rfl⟩
     rw [hcv] at hR
     have HR2:=Lib.hid hR
     simp only at d0 d1 d2 d3
     have x1:IntKind.i64.wrap ((I:Int)+(J:Int))=((I+J:Nat):Int):=by rw [show (I:Int)+(J:Int)=((I+J:Nat):Int) by omega]; exact IntWalk.i64_in _ (by omega)
     obtain ⟨ij,hij⟩:∃ m,I+J=m:=⟨_,rfl⟩
     rw [hij] at x1 hh
     have x2:IntKind.u64.wrap (ij:Int)=(ij:Int):=by rw [IntKind.wrap_u64]; omega
     have x4:IntKind.u64.wrap (h:Int)=(h:Int):=by rw [IntKind.wrap_u64]; omega
     have x5:IntKind.i64.wrap (h:Int)=(h:Int):=IntWalk.i64_in _ (by omega)
     have x3:(ij:Int) / 2=(h:Int):=by omega
     have x6:ij / 2=h:=hh
     have x7:IntKind.i64.wrap ((n1:Int)-(h:Int))=(e:Int):=by rw [show (n1:Int)-(h:Int)=(e:Int) by omega]; exact IntWalk.i64_in _ (by omega)
     clear hR hy hx ha hij hh he e0 e1' e2' e3' R1 R2 R3 Q1 Q2 Q3 w1 w2 w3 v2 v4 v5 v3 v6 w4 w5
     by_cases hneg:cv<0
     ·have HR3:=Lib.hid (HR2.out.trans (if_pos hneg))
      clear HR2
      go_wp2_with fail
      refine Zm [6,10] (S:=fun wx=>wx.cell? ⟨g,e*2,none⟩=some xv∧wx.cell? ⟨g,e*2+1,none⟩=some (.complex .f64 (fl xx.a) (fl xx.b))∧wx.cell? ⟨g,h*2,none⟩=some yv∧wx.cell? ⟨g,h*2+1,none⟩=some (.complex .f64 (fl yx.a) (fl yx.b))) (by kernel_rfl) ⟨d2,d3,d0,d1⟩ (fun hHeld => ?_)
      refine Zb (i:=0) (some 158) (v := ?_) rfl rfl (by kernel_rfl) (by kernel_rfl) (by kernel_rfl) (fun _ _ _ h=>h) (Or.inl ⟨by rfl,?_⟩) ?_
      rotate_left
      ·(intro wx hSw; clear hSw; go_simp; try (with_reducible rfl))
      try simp only [Act.put,List.setIfInBounds_toArray,List.set_cons_zero,List.set_cons_succ]
      refine Zb (i:=1) (some 159) (v := ?_) rfl rfl (by kernel_rfl) (by kernel_rfl) (by kernel_rfl) (fun _ _ _ h=>h) (Or.inl ⟨by rfl,?_⟩) ?_
      rotate_left
      ·(intro wx hSw; clear hSw; go_simp; try (with_reducible rfl))
      try simp only [Act.put,List.setIfInBounds_toArray,List.set_cons_zero,List.set_cons_succ]
      refine Zb (i:=2) (some 160) (v := ?_) rfl rfl (by kernel_rfl) (by kernel_rfl) (by kernel_rfl) (fun _ _ _ h=>h) (Or.inl ⟨by rfl,?_⟩) ?_
      rotate_left
      ·(intro wx hSw; clear hSw; go_simp; try (with_reducible rfl))
      try simp only [Act.put,List.setIfInBounds_toArray,List.set_cons_zero,List.set_cons_succ]
      refine Zb (i:=3) (some 161) (v := ?_) rfl rfl (by kernel_rfl) (by kernel_rfl) (by kernel_rfl) (fun _ _ _ h=>h) (Or.inl ⟨by rfl,?_⟩) ?_
      rotate_left
      ·(intro wx hSw; clear hSw; go_simp; try (with_reducible rfl))
      try simp only [Act.put,List.setIfInBounds_toArray,List.set_cons_zero,List.set_cons_succ]
      refine Zb (i:=4) (some 162) (v := ?_) rfl rfl (by kernel_rfl) (by kernel_rfl) (by kernel_rfl) (fun _ _ _ h=>h) (Or.inl ⟨by rfl,?_⟩) ?_
      rotate_left
      ·(intro wx hSw; clear hSw; go_simp; try (with_reducible rfl))
      try simp only [Act.put,List.setIfInBounds_toArray,List.set_cons_zero,List.set_cons_succ]
      refine Zb (i:=5) (some 163) (v := ?_) rfl rfl (by kernel_rfl) (by kernel_rfl) (by kernel_rfl) (fun _ _ _ h=>h) (Or.inl ⟨by rfl,?_⟩) ?_
      rotate_left
      ·(intro wx hSw; clear hSw; go_simp; try (with_reducible rfl))
      try simp only [Act.put,List.setIfInBounds_toArray,List.set_cons_zero,List.set_cons_succ]
      refine Zp (i:=6) (some 164) (v := ?_) (by decide) rfl rfl (by kernel_rfl) (by kernel_rfl) (by kernel_rfl) (fun _ _ _ h=>h) (Or.inl ⟨by rfl,?_⟩) (by assumption) ?_
      rotate_left
      ·(intro wx hSw; go_simp; try (with_reducible rfl))
      try simp only [Act.put,List.setIfInBounds_toArray,List.set_cons_zero,List.set_cons_succ]
      refine Zb (i:=7) (some 165) (v := ?_) rfl rfl (by kernel_rfl) (by kernel_rfl) (by kernel_rfl) (fun _ _ _ h=>h) (Or.inl ⟨by rfl,?_⟩) ?_
      rotate_left
      ·(intro wx hSw; clear hSw; go_simp; try (with_reducible rfl))
      try simp only [Act.put,List.setIfInBounds_toArray,List.set_cons_zero,List.set_cons_succ]
      refine Zb (i:=8) (some 166) (v := ?_) rfl rfl (by kernel_rfl) (by kernel_rfl) (by kernel_rfl) (fun _ _ _ h=>h) (Or.inl ⟨by rfl,?_⟩) ?_
      rotate_left
      ·(intro wx hSw; clear hSw; go_simp; try (with_reducible rfl))
      try simp only [Act.put,List.setIfInBounds_toArray,List.set_cons_zero,List.set_cons_succ]
      refine Zb (i:=9) (some 167) (v := ?_) rfl rfl (by kernel_rfl) (by kernel_rfl) (by kernel_rfl) (fun _ _ _ h=>h) (Or.inl ⟨by rfl,?_⟩) ?_
      rotate_left
      ·(intro wx hSw; clear hSw; go_simp; try (with_reducible rfl))
      try simp only [Act.put,List.setIfInBounds_toArray,List.set_cons_zero,List.set_cons_succ]
      refine Zp (i:=10) (some 168) (v := ?_) (by decide) rfl rfl (by kernel_rfl) (by kernel_rfl) (by kernel_rfl) (fun _ _ _ h=>h) (Or.inl ⟨by rfl,?_⟩) (by assumption) ?_
      rotate_left
      ·(intro wx hSw; go_simp; try (with_reducible rfl))
      try simp only [Act.put,List.setIfInBounds_toArray,List.set_cons_zero,List.set_cons_succ]
      refine Zj (rs:=[11]) (by kernel_rfl) (by simp) ?_
      refine Zf.Qc rfl (by kernel_rfl) (fun K hK => ?_) Zf.nil
      go_simp
      refine (QY hpx hpy).mono ?_
      rintro _ wA ⟨rfl,hA⟩
      rw [hcv]
      go_wp2_with fail
      refine hK.out _ _ ?_
      clear hK K
      try simp only [Act.put,List.setIfInBounds_toArray,List.set_cons_zero,List.set_cons_succ]
      refine Zb (i:=12) (some 170) (v := ?_) rfl rfl (by kernel_rfl) (by kernel_rfl) (by kernel_rfl) (fun _ _ _ h=>h) (Or.inl ⟨by rfl,?_⟩) ?_
      rotate_left
      ·(intro wx hSw; clear hSw; go_simp; try (with_reducible rfl))
      try simp only [Act.put,List.setIfInBounds_toArray,List.set_cons_zero,List.set_cons_succ]
      refine Zb (i:=13) (some 171) (v := ?_) rfl rfl (by kernel_rfl) (by kernel_rfl) (by kernel_rfl) (fun _ _ _ h=>h) (Or.inl ⟨by rfl,?_⟩) ?_
      rotate_left
      ·(intro wx hSw; clear hSw; go_simp; try (with_reducible rfl))
      try simp only [Act.put,List.setIfInBounds_toArray,List.set_cons_zero,List.set_cons_succ]
      refine Zw (by kernel_rfl) ?_ _
      have hAA:=Lib.hid ((HA.out.Zi ((Chg.refl _ wr).drew)).Zi hA)
      have hcA:Chg (fun k=>k=g) w wA:=hcd.trans hA fun _ _ h=>h.elim
      clear d0 d1 d2 d3 hpx hpy x1 x2 x3 x4
      go_wp2_with fail
      go_roundw
      case rel=>exact ⟨I,h,by omega,by omega,by omega,rfl,rfl,hAA,Lib.hid ⟨f,by omega,HR3.out⟩,hcA⟩
      case measure=>simp [intOf]; omega
      all_goals (exfalso; rename_i hx; simp at hx; omega)
     ·have HR3:=Lib.hid (HR2.out.trans (if_neg hneg))
      have x8:IntKind.i64.wrap ((h:Int)+1)=((h+1:Nat):Int):=by rw [show (h:Int)+1=((h+1:Nat):Int) by omega]; exact IntWalk.i64_in _ (by omega)
      clear HR2
      go_wp2_with fail
      refine Zm [6,10] (S:=fun wx=>wx.cell? ⟨g,e*2,none⟩=some xv∧wx.cell? ⟨g,e*2+1,none⟩=some (.complex .f64 (fl xx.a) (fl xx.b))∧wx.cell? ⟨g,h*2,none⟩=some yv∧wx.cell? ⟨g,h*2+1,none⟩=some (.complex .f64 (fl yx.a) (fl yx.b))) (by kernel_rfl) ⟨d2,d3,d0,d1⟩ (fun hHeld => ?_)
      refine Zb (i:=0) (some 158) (v := ?_) rfl rfl (by kernel_rfl) (by kernel_rfl) (by kernel_rfl) (fun _ _ _ h=>h) (Or.inl ⟨by rfl,?_⟩) ?_
      rotate_left
      ·(intro wx hSw; clear hSw; go_simp; try (with_reducible rfl))
      try simp only [Act.put,List.setIfInBounds_toArray,List.set_cons_zero,List.set_cons_succ]
      refine Zb (i:=1) (some 159) (v := ?_) rfl rfl (by kernel_rfl) (by kernel_rfl) (by kernel_rfl) (fun _ _ _ h=>h) (Or.inl ⟨by rfl,?_⟩) ?_
      rotate_left
      ·(intro wx hSw; clear hSw; go_simp; try (with_reducible rfl))
      try simp only [Act.put,List.setIfInBounds_toArray,List.set_cons_zero,List.set_cons_succ]
      refine Zb (i:=2) (some 160) (v := ?_) rfl rfl (by kernel_rfl) (by kernel_rfl) (by kernel_rfl) (fun _ _ _ h=>h) (Or.inl ⟨by rfl,?_⟩) ?_
      rotate_left
      ·(intro wx hSw; clear hSw; go_simp; try (with_reducible rfl))
      try simp only [Act.put,List.setIfInBounds_toArray,List.set_cons_zero,List.set_cons_succ]
      refine Zb (i:=3) (some 161) (v := ?_) rfl rfl (by kernel_rfl) (by kernel_rfl) (by kernel_rfl) (fun _ _ _ h=>h) (Or.inl ⟨by rfl,?_⟩) ?_
      rotate_left
      ·(intro wx hSw; clear hSw; go_simp; try (with_reducible rfl))
      try simp only [Act.put,List.setIfInBounds_toArray,List.set_cons_zero,List.set_cons_succ]
      refine Zb (i:=4) (some 162) (v := ?_) rfl rfl (by kernel_rfl) (by kernel_rfl) (by kernel_rfl) (fun _ _ _ h=>h) (Or.inl ⟨by rfl,?_⟩) ?_
      rotate_left
      ·(intro wx hSw; clear hSw; go_simp; try (with_reducible rfl))
      try simp only [Act.put,List.setIfInBounds_toArray,List.set_cons_zero,List.set_cons_succ]
      refine Zb (i:=5) (some 163) (v := ?_) rfl rfl (by kernel_rfl) (by kernel_rfl) (by kernel_rfl) (fun _ _ _ h=>h) (Or.inl ⟨by rfl,?_⟩) ?_
      rotate_left
      ·(intro wx hSw; clear hSw; go_simp; try (with_reducible rfl))
      try simp only [Act.put,List.setIfInBounds_toArray,List.set_cons_zero,List.set_cons_succ]
      refine Zp (i:=6) (some 164) (v := ?_) (by decide) rfl rfl (by kernel_rfl) (by kernel_rfl) (by kernel_rfl) (fun _ _ _ h=>h) (Or.inl ⟨by rfl,?_⟩) (by assumption) ?_
      rotate_left
      ·(intro wx hSw; go_simp; try (with_reducible rfl))
      try simp only [Act.put,List.setIfInBounds_toArray,List.set_cons_zero,List.set_cons_succ]
      refine Zb (i:=7) (some 165) (v := ?_) rfl rfl (by kernel_rfl) (by kernel_rfl) (by kernel_rfl) (fun _ _ _ h=>h) (Or.inl ⟨by rfl,?_⟩) ?_
      rotate_left
      ·(intro wx hSw; clear hSw; go_simp; try (with_reducible rfl))
      try simp only [Act.put,List.setIfInBounds_toArray,List.set_cons_zero,List.set_cons_succ]
      refine Zb (i:=8) (some 166) (v := ?_) rfl rfl (by kernel_rfl) (by kernel_rfl) (by kernel_rfl) (fun _ _ _ h=>h) (Or.inl ⟨by rfl,?_⟩) ?_
      rotate_left
      ·(intro wx hSw; clear hSw; go_simp; try (with_reducible rfl))
      try simp only [Act.put,List.setIfInBounds_toArray,List.set_cons_zero,List.set_cons_succ]
      refine Zb (i:=9) (some 167) (v := ?_) rfl rfl (by kernel_rfl) (by kernel_rfl) (by kernel_rfl) (fun _ _ _ h=>h) (Or.inl ⟨by rfl,?_⟩) ?_
      rotate_left
      ·(intro wx hSw; clear hSw; go_simp; try (with_reducible rfl))
      try simp only [Act.put,List.setIfInBounds_toArray,List.set_cons_zero,List.set_cons_succ]
      refine Zp (i:=10) (some 168) (v := ?_) (by decide) rfl rfl (by kernel_rfl) (by kernel_rfl) (by kernel_rfl) (fun _ _ _ h=>h) (Or.inl ⟨by rfl,?_⟩) (by assumption) ?_
      rotate_left
      ·(intro wx hSw; go_simp; try (with_reducible rfl))
      try simp only [Act.put,List.setIfInBounds_toArray,List.set_cons_zero,List.set_cons_succ]
      refine Zj (rs:=[11]) (by kernel_rfl) (by simp) ?_
      refine Zf.Qc rfl (by kernel_rfl) (fun K hK => ?_) Zf.nil
      go_simp
      refine (QY hpx hpy).mono ?_
      rintro _ wA ⟨rfl,hA⟩
      rw [hcv]
      go_wp2_with fail
      refine hK.out _ _ ?_
      clear hK K
      try simp only [Act.put,List.setIfInBounds_toArray,List.set_cons_zero,List.set_cons_succ]
      refine Zb (i:=12) (some 170) (v := ?_) rfl rfl (by kernel_rfl) (by kernel_rfl) (by kernel_rfl) (fun _ _ _ h=>h) (Or.inl ⟨by rfl,?_⟩) ?_
      rotate_left
      ·(intro wx hSw; clear hSw; go_simp; try (with_reducible rfl))
      try simp only [Act.put,List.setIfInBounds_toArray,List.set_cons_zero,List.set_cons_succ]
      refine Zb (i:=13) (some 171) (v := ?_) rfl rfl (by kernel_rfl) (by kernel_rfl) (by kernel_rfl) (fun _ _ _ h=>h) (Or.inl ⟨by rfl,?_⟩) ?_
      rotate_left
      ·(intro wx hSw; clear hSw; go_simp; try (with_reducible rfl))
      try simp only [Act.put,List.setIfInBounds_toArray,List.set_cons_zero,List.set_cons_succ]
      refine Zw (by kernel_rfl) ?_ _
      have hAA:=Lib.hid ((HA.out.Zi ((Chg.refl _ wr).drew)).Zi hA)
      have hcA:Chg (fun k=>k=g) w wA:=hcd.trans hA fun _ _ h=>h.elim
      clear d0 d1 d2 d3 hpx hpy x1 x2 x3 x4
      go_wp2_with fail
      go_roundw
      case rel=>exact ⟨h+1,J,by omega,by omega,by omega,by go_num,rfl,hAA,Lib.hid ⟨f,by omega,HR3.out⟩,hcA⟩
      case measure=>simp [intOf]; omega
      all_goals (exfalso; rename_i hx; simp at hx; omega)
    ·have hIJ:I=J:=by omega
     subst hIJ
     have hres:st=I:=by
      obtain ⟨f,hf,hR⟩:=HR.out
      rw [hR]
      cases f with
      | zero=>rfl
      | succ f=>rw [bs3,if_neg (by omega)]
     subst hres
     have w7:IntKind.i64.wrap ((n:Int)-(st:Int))=(en:Int):=by rw [show (n:Int)-(st:Int)=(en:Int) by omega]; exact IntWalk.i64_in _ (by omega)
     have hM2:=HM.out
     clear HR w1 w2 w3 v2 v4 v5 v3 v6 w4 w5 HI HS
     by_cases g1:st<hi
     ·have g2:hi<en:=by omega
      have g3:en≤N:=by omega
      go_wp2_with fail
      refine (R1.out _ HA.out g1 g2 g3).mono ?_
      rintro _ wX ⟨rfl,hAX,hcX⟩
      have HAX:=Lib.hid hAX
      have hcX2:=hcw.trans hcX fun _ _ h=>h
      clear hAX hcX
      by_cases c6:lo<st
      ·by_cases c7:st<mid
       ·go_wp2_with fail
        refine (R2.out _ HAX.out hcX2 c6 c7).mono ?_
        rintro _ wY ⟨rfl,hAY,hcY⟩
        have HAY:=Lib.hid hAY
        have hcY2:=hcX2.trans hcY fun _ _ h=>h
        clear hAY hcY
        by_cases c4:mid<en
        ·by_cases c5:en<b
         ·go_wp2_with fail
          refine (R3.out _ HAY.out hcY2 c4 c5).mono ?_
          rintro _ wZ ⟨rfl,hAZ,hcZ⟩
          have HAZ:=Lib.hid hAZ
          clear hAZ
          go_wp2_with fail
          go_end0
          exact ⟨rfl,HAZ.out,hcY2.trans hcZ fun _ _ h=>h⟩
         ·have HAZ:Hid (Arr wY g p3):=Lib.hid ((Q3.out fun h=>c5 h.2)▸HAY.out)
          go_wp2_with fail
          go_end0
          exact ⟨rfl,HAZ.out,hcY2⟩
        ·have HAZ:Hid (Arr wY g p3):=Lib.hid ((Q3.out fun h=>c4 h.1)▸HAY.out)
         go_wp2_with fail
         go_end0
         exact ⟨rfl,HAZ.out,hcY2⟩
       ·have HAY:Hid (Arr wX g p2):=Lib.hid ((Q2.out fun h=>c7 h.2)▸HAX.out)
        by_cases c4:mid<en
        ·by_cases c5:en<b
         ·go_wp2_with fail
          refine (R3.out _ HAY.out hcX2 c4 c5).mono ?_
          rintro _ wZ ⟨rfl,hAZ,hcZ⟩
          have HAZ:=Lib.hid hAZ
          clear hAZ
          go_wp2_with fail
          go_end0
          exact ⟨rfl,HAZ.out,hcX2.trans hcZ fun _ _ h=>h⟩
         ·have HAZ:Hid (Arr wX g p3):=Lib.hid ((Q3.out fun h=>c5 h.2)▸HAY.out)
          go_wp2_with fail
          go_end0
          exact ⟨rfl,HAZ.out,hcX2⟩
        ·have HAZ:Hid (Arr wX g p3):=Lib.hid ((Q3.out fun h=>c4 h.1)▸HAY.out)
         go_wp2_with fail
         go_end0
         exact ⟨rfl,HAZ.out,hcX2⟩
      ·have HAY:Hid (Arr wX g p2):=Lib.hid ((Q2.out fun h=>c6 h.1)▸HAX.out)
       by_cases c4:mid<en
       ·by_cases c5:en<b
        ·go_wp2_with fail
         refine (R3.out _ HAY.out hcX2 c4 c5).mono ?_
         rintro _ wZ ⟨rfl,hAZ,hcZ⟩
         have HAZ:=Lib.hid hAZ
         clear hAZ
         go_wp2_with fail
         go_end0
         exact ⟨rfl,HAZ.out,hcX2.trans hcZ fun _ _ h=>h⟩
        ·have HAZ:Hid (Arr wX g p3):=Lib.hid ((Q3.out fun h=>c5 h.2)▸HAY.out)
         go_wp2_with fail
         go_end0
         exact ⟨rfl,HAZ.out,hcX2⟩
       ·have HAZ:Hid (Arr wX g p3):=Lib.hid ((Q3.out fun h=>c4 h.1)▸HAY.out)
        go_wp2_with fail
        go_end0
        exact ⟨rfl,HAZ.out,hcX2⟩
     ·have HAX:Hid (Arr wr g p1):=Lib.hid ((Q1.out fun h=>g1 h.1)▸HA.out)
      by_cases c6:lo<st
      ·by_cases c7:st<mid
       ·go_wp2_with fail
        refine (R2.out _ HAX.out hcw c6 c7).mono ?_
        rintro _ wY ⟨rfl,hAY,hcY⟩
        have HAY:=Lib.hid hAY
        have hcY2:=hcw.trans hcY fun _ _ h=>h
        clear hAY hcY
        by_cases c4:mid<en
        ·by_cases c5:en<b
         ·go_wp2_with fail
          refine (R3.out _ HAY.out hcY2 c4 c5).mono ?_
          rintro _ wZ ⟨rfl,hAZ,hcZ⟩
          have HAZ:=Lib.hid hAZ
          clear hAZ
          go_wp2_with fail
          go_end0
          exact ⟨rfl,HAZ.out,hcY2.trans hcZ fun _ _ h=>h⟩
         ·have HAZ:Hid (Arr wY g p3):=Lib.hid ((Q3.out fun h=>c5 h.2)▸HAY.out)
          go_wp2_with fail
          go_end0
          exact ⟨rfl,HAZ.out,hcY2⟩
        ·have HAZ:Hid (Arr wY g p3):=Lib.hid ((Q3.out fun h=>c4 h.1)▸HAY.out)
         go_wp2_with fail
         go_end0
         exact ⟨rfl,HAZ.out,hcY2⟩
       ·have HAY:Hid (Arr wr g p2):=Lib.hid ((Q2.out fun h=>c7 h.2)▸HAX.out)
        by_cases c4:mid<en
        ·by_cases c5:en<b
         ·go_wp2_with fail
          refine (R3.out _ HAY.out hcw c4 c5).mono ?_
          rintro _ wZ ⟨rfl,hAZ,hcZ⟩
          have HAZ:=Lib.hid hAZ
          clear hAZ
          go_wp2_with fail
          go_end0
          exact ⟨rfl,HAZ.out,hcw.trans hcZ fun _ _ h=>h⟩
         ·have HAZ:Hid (Arr wr g p3):=Lib.hid ((Q3.out fun h=>c5 h.2)▸HAY.out)
          go_wp2_with fail
          go_end0
          exact ⟨rfl,HAZ.out,hcw⟩
        ·have HAZ:Hid (Arr wr g p3):=Lib.hid ((Q3.out fun h=>c4 h.1)▸HAY.out)
         go_wp2_with fail
         go_end0
         exact ⟨rfl,HAZ.out,hcw⟩
      ·have HAY:Hid (Arr wr g p2):=Lib.hid ((Q2.out fun h=>c6 h.1)▸HAX.out)
       by_cases c4:mid<en
       ·by_cases c5:en<b
        ·go_wp2_with fail
         refine (R3.out _ HAY.out hcw c4 c5).mono ?_
         rintro _ wZ ⟨rfl,hAZ,hcZ⟩
         have HAZ:=Lib.hid hAZ
         clear hAZ
         go_wp2_with fail
         go_end0
         exact ⟨rfl,HAZ.out,hcw.trans hcZ fun _ _ h=>h⟩
        ·have HAZ:Hid (Arr wr g p3):=Lib.hid ((Q3.out fun h=>c5 h.2)▸HAY.out)
         go_wp2_with fail
         go_end0
         exact ⟨rfl,HAZ.out,hcw⟩
       ·have HAZ:Hid (Arr wr g p3):=Lib.hid ((Q3.out fun h=>c4 h.1)▸HAY.out)
        go_wp2_with fail
        go_end0
        exact ⟨rfl,HAZ.out,hcw⟩
end Go.Proofs.YtheflbaejhlboaaGreatDoor
namespace Go.Proofs.YtheflbaejhlboaaGreatDoor
theorem Ke {α : Type} (A:List α) (x : α) (B:List α) {i:Nat} (h:i=A.length):(A++x::B)[i]? = some x:=by
 subst h
 rw [List.getElem?_append_right (Nat.le_refl _),Nat.sub_self]
 rfl
theorem KY {α : Type} (A:List α) (x y : α) (B:List α) {i:Nat} (h:i=A.length):(A++x::B).set i y=A++y::B:=by
 subst h
 rw [List.set_append_right _ _ (Nat.le_refl _),Nat.sub_self]
 rfl
theorem FQ (A B C:List PI) (x y:PI) {i j:Nat} (hi:i=A.length) (hj:j=A.length+1+B.length):sw (A++x::(B++y::C)) i j=A++y::(B++x::C):=by
 have h1:(A++x::(B++y::C))[i]? = some x:=Ke A x _ hi
 have e:A++x::(B++y::C)=(A++x::B)++y::C:=by simp
 have h2:(A++x::(B++y::C))[j]? = some y:=by rw [e]; exact Ke _ y C (by simp; omega)
 unfold sw
 rw [h1,h2]
 show ((A++x::(B++y::C)).set i y).set j x=_
 rw [KY A x y _ hi,show A++y::(B++y::C)=(A++y::B)++y::C by simp,KY _ y x C (by simp; omega)]
 simp
theorem BH (A B C:List PI) (x y:PI) {i j:Nat} (hi:i=A.length+1+B.length) (hj:j=A.length):sw (A++x::(B++y::C)) i j=A++y::(B++x::C):=by
 have h1:(A++x::(B++y::C))[j]? = some x:=Ke A x _ hj
 have e:A++x::(B++y::C)=(A++x::B)++y::C:=by simp
 have h2:(A++x::(B++y::C))[i]? = some y:=by rw [e]; exact Ke _ y C (by simp; omega)
 unfold sw
 rw [h1,h2]
 show ((A++x::(B++y::C)).set i x).set j y=_
 rw [e,KY _ y x C (by simp; omega),show (A++x::B)++x::C=A++x::(B++x::C) by simp,KY A x y _ hj]
theorem XB:∀ (n:Nat) (A X B Y C:List PI) {a b:Nat},X.length=n→Y.length=n→a=A.length→b=A.length+n+B.length→QZ (A++(X++(B++(Y++C)))) a b n=A++(Y++(B++(X++C)))
 | 0,A,X,B,Y,C,a,b,hx,hy,ha,hb=>by
  have e1:=List.eq_nil_of_length_eq_zero hx
  have e2:=List.eq_nil_of_length_eq_zero hy
  subst e1; subst e2
  rfl
 | n+1,A,X,B,Y,C,a,b,hx,hy,ha,hb=>by
  obtain ⟨X',x,rfl⟩:∃ X' x,X=X'++[x]:=⟨X.dropLast,X.getLast (by intro h; subst h; cases hx),(List.dropLast_concat_getLast _).symm⟩
  obtain ⟨Y',y,rfl⟩:∃ Y' y,Y=Y'++[y]:=⟨Y.dropLast,Y.getLast (by intro h; subst h; cases hy),(List.dropLast_concat_getLast _).symm⟩
  simp only [List.length_append,List.length_cons,List.length_nil] at hx hy
  rw [QZ]
  have e:A++(X'++[x]++(B++(Y'++[y]++C)))=A++(X'++((x::B)++(Y'++(y::C)))):=by simp
  rw [e,XB n A X' (x::B) Y' (y::C) (by omega) (by omega) ha (by simp; omega)]
  have e2:A++(Y'++((x::B)++(X'++(y::C))))=(A++Y')++x::((B++X')++y::C):=by simp
  rw [e2,FQ (A++Y') (B++X') C x y (by simp; omega) (by simp; omega)]
  simp
theorem Yv:∀ (f:Nat) (P X Y Q:List PI) {m i j:Nat},X.length=i→Y.length=j→m=P.length+i→0<i→0<j→i+j≤f→Kr f (P++(X++(Y++Q))) m i j=P++(Y++(X++Q))
 | 0,_,_,_,_,m,i,j,_,_,_,_,_,_=>by omega
 | f+1,P,X,Y,Q,m,i,j,hx,hy,hm,hi,hj,hf=>by
  rw [Kr]
  by_cases e:i=j
  ·rw [if_pos e]
   have:=XB i P X [] Y Q (a:=m-i) (b:=m) hx (by omega) (by omega) (by simp; omega)
   simpa using this
  ·rw [if_neg e]
   by_cases h:j<i
   ·rw [if_pos h]
    obtain ⟨A,B,rfl,hA⟩:∃ A B,X=A++B∧A.length=j:=⟨X.take j,X.drop j,(List.take_append_drop j X).symm,by rw [List.length_take]; omega⟩
    rw [List.length_append] at hx
    have h1:=XB j P A B Y Q (a:=m-i) (b:=m) hA hy (by omega) (by omega)
    rw [show P++(A++B++(Y++Q))=P++(A++(B++(Y++Q))) by simp,h1]
    rw [show P++(Y++(B++(A++Q)))=(P++Y)++(B++(A++Q)) by simp]
    rw [Yv f (P++Y) B A Q (by omega) hA (by rw [List.length_append]; omega) (by omega) hj (by omega)]
    simp
   ·rw [if_neg h]
    obtain ⟨C,D,rfl,hC⟩:∃ C D,Y=C++D∧C.length=j-i:=⟨Y.take (j-i),Y.drop (j-i),(List.take_append_drop _ Y).symm,by rw [List.length_take]; omega⟩
    rw [List.length_append] at hy
    have h1:=XB i P X C D Q (a:=m-i) (b:=m+j-i) hx (by omega) (by omega) (by omega)
    rw [show P++(X++(C++D++Q))=P++(X++(C++(D++Q))) by simp,h1]
    rw [Yv f P D C (X++Q) (by omega) hC hm hi (by omega) (by omega)]
    simp
theorem NW:∀ (Y A C:List PI) (x:PI) {k:Nat},k=A.length→upN Y.length k (A++x::(Y++C))=A++(Y++x::C)
 | [],A,C,x,k,h=>by simp [upN]
 | y::Y,A,C,x,k,h=>by
  rw [List.length_cons,upN]
  have:=FQ A [] (Y++C) x y (i:=k) (j:=k+1) h (by simp; omega)
  simp only [List.nil_append] at this
  rw [List.cons_append,this,show A++y::x::(Y++C)=(A++[y])++x::(Y++C) by simp,NW Y (A++[y]) C x (by simp; omega)]
  simp
theorem RN:∀ (n:Nat) (A Y C:List PI) (x:PI) {k:Nat},Y.length=n→k=A.length+n→XV n k (A++(Y++x::C))=A++x::(Y++C)
 | 0,A,Y,C,x,k,hn,h=>by
  have:=List.eq_nil_of_length_eq_zero hn
  subst this
  simp [XV]
 | n+1,A,Y,C,x,k,hn,h=>by
  obtain ⟨Y',y,rfl⟩:∃ Y' y,Y=Y'++[y]:=⟨Y.dropLast,Y.getLast (by intro h; subst h; cases hn),(List.dropLast_concat_getLast _).symm⟩
  simp only [List.length_append,List.length_cons,List.length_nil] at hn
  rw [XV]
  have:=BH (A++Y') [] C y x (i:=k) (j:=k-1) (by simp; omega) (by simp; omega)
  simp only [List.nil_append] at this
  rw [show A++(Y'++[y]++x::C)=A++Y'++y::x::C by simp,this,show A++Y'++x::y::C=A++(Y'++x::(y::C)) by simp,
   RN n A Y' (y::C) x (by omega) (by omega)]
  simp
def bs (p:Nat→Bool):Nat→Nat→Nat→Nat
 | 0,i,_=>i
 | f+1,i,j=>if i<j then (if p ((i+j) / 2) then bs p f ((i+j) / 2+1) j else bs p f i ((i+j) / 2)) else i
theorem Tv (p:Nat→Bool) (lo hi:Nat):∀ (f i j:Nat),lo≤i→i≤j→j≤hi→j-i≤f→(lo<i→p (i-1)=true)→(j<hi→p j=false) →
  i≤bs p f i j∧bs p f i j≤j∧(lo<bs p f i j→p (bs p f i j-1)=true)∧(bs p f i j<hi→p (bs p f i j)=false)
 | 0,i,j,h1,h2,h3,h4,h5,h6=>by
  have e:i=j:=by omega
  subst e
  exact ⟨Nat.le_refl _,Nat.le_refl _,h5,h6⟩
 | f+1,i,j,h1,h2,h3,h4,h5,h6=>by
  rw [bs]
  by_cases h:i<j
  ·rw [if_pos h]
   by_cases hp:p ((i+j) / 2)=true
   ·rw [if_pos hp]
    obtain ⟨k1,k2,k3,k4⟩:=Tv p lo hi f ((i+j) / 2+1) j (by omega) (by omega) h3 (by omega) (fun _=>hp) h6
    exact ⟨by omega,k2,k3,k4⟩
   ·rw [if_neg hp]
    obtain ⟨k1,k2,k3,k4⟩:=Tv p lo hi f i ((i+j) / 2) h1 (by omega) (by omega) (by omega) h5 (fun _=>by simpa using hp)
    exact ⟨k1,by omega,k3,k4⟩
  ·rw [if_neg h]
   have e:i=j:=by omega
   subst e
   exact ⟨Nat.le_refl _,Nat.le_refl _,h5,h6⟩
theorem Co (ps:List PI) (x:PI):∀ (f i j:Nat),j≤ps.length→bs1 ps x f i j=bs (fun h=>match ps[h]? with | some y=>decide (J3 y x<0) | none=>false) f i j
 | 0,_,_,_=>rfl
 | f+1,i,j,hj=>by
  rw [bs1,bs]
  by_cases h:i<j
  ·rw [if_pos h,if_pos h]
   obtain ⟨y,hy⟩:∃ y,ps[(i+j) / 2]? = some y:=⟨_,List.getElem?_eq_getElem (by omega)⟩
   simp only [hy]
   by_cases hn:J3 y x<0
   ·simp only [hn,if_true,decide_true]
    exact Co ps x f _ j hj
   ·simp only [hn,if_false,decide_false,Bool.false_eq_true]
    exact Co ps x f i _ (by omega)
  ·rw [if_neg h,if_neg h]
theorem Cp (ps:List PI) (x:PI):∀ (f i j:Nat),j≤ps.length→bs2 ps x f i j=bs (fun h=>match ps[h]? with | some y => !decide (J3 x y<0) | none=>false) f i j
 | 0,_,_,_=>rfl
 | f+1,i,j,hj=>by
  rw [bs2,bs]
  by_cases h:i<j
  ·rw [if_pos h,if_pos h]
   obtain ⟨y,hy⟩:∃ y,ps[(i+j) / 2]? = some y:=⟨_,List.getElem?_eq_getElem (by omega)⟩
   simp only [hy]
   by_cases hn:J3 x y<0
   ·simp only [hn,if_true,decide_true,Bool.not_true,Bool.false_eq_true,if_false]
    exact Cp ps x f i _ (by omega)
   ·simp only [hn,if_false,decide_false,Bool.not_false,if_true]
    exact Cp ps x f _ j hj
  ·rw [if_neg h,if_neg h]
theorem Cq (ps:List PI) (p:Nat):∀ (f i j:Nat),j≤ps.length→p-i<ps.length→bs3 ps p f i j=bs (fun h=>match ps[p-h]?,ps[h]? with | some x,some y => !decide (J3 x y<0) | _,_=>false) f i j
 | 0,_,_,_,_=>rfl
 | f+1,i,j,hj,hp=>by
  rw [bs3,bs]
  by_cases h:i<j
  ·rw [if_pos h,if_pos h]
   obtain ⟨y,hy⟩:∃ y,ps[(i+j) / 2]? = some y:=⟨_,List.getElem?_eq_getElem (by omega)⟩
   obtain ⟨x,hx⟩:∃ x,ps[p-(i+j) / 2]? = some x:=⟨_,List.getElem?_eq_getElem (by omega)⟩
   simp only [hy,hx]
   by_cases hn:J3 x y<0
   ·simp only [hn,if_true,decide_true,Bool.not_true,Bool.false_eq_true,if_false]
    exact Cq ps p f i _ (by omega) hp
   ·simp only [hn,if_false,decide_false,Bool.not_false,if_true]
    exact Cq ps p f _ j hj (by omega)
  ·rw [if_neg h,if_neg h]
end Go.Proofs.YtheflbaejhlboaaGreatDoor
