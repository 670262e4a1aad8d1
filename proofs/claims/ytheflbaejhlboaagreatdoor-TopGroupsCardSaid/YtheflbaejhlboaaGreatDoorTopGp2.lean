/- Lemmas for a law of confluencetop. -/
import Derived.Test.YtheflbaejhlboaaGreatDoorTopGp1
set_option linter.all false
set_option maxHeartbeats 16000000
set_option maxRecDepth 100000
namespace Go.Proofs.YtheflbaejhlboaaGreatDoor
open Tryz
section
open Go.RowKit
def Wd:Nat->List PI->Nat->Nat->Nat->List PI
 | 0,ps,_,_,_=>ps
 | f+1,ps,m,i,j=>if i=j then Jl ps (m-i) m i else if j<i then Wd f (Jl ps (m-i) m j) m (i-j) j else Wd f (Jl ps (m-i) (m+j-i) i) m i (j-i)
theorem Jq:∀ f ps m i j,(Wd f ps m i j).length=ps.length
 | 0,_,_,_,_=>rfl
 | f+1,ps,m,i,j=>by
  rw [Wd];split
  ·exact QB _ _ _ _
  ·split
   ·rw [Jq f,QB]
   ·rw [Jq f,QB]
theorem Yp:∀ f g ps m i j,0<i->0<j->i+j<=f->i+j<=g->Wd f ps m i j=Wd g ps m i j
 | 0,_,_,_,_,_,_,_,_,_=>by omega
 | _+1,0,_,_,_,_,_,_,_,_=>by omega
 | f+1,g+1,ps,m,i,j,hi,hj,h1,h2=>by
  rw [Wd,Wd];split
  ·rfl
  ·split
   ·exact Yp f g _ _ _ _ (by omega) hj (by omega) (by omega)
   ·exact Yp f g _ _ _ _ hi (by omega) (by omega) (by omega)
theorem Fx {w:World} {g N cap a m b:Nat} {ps:List PI} {f:Value} (h:Arr w g ps) (hN:ps.length=N) (hcap:N<=cap) (h1:a<m) (h2:m<b) (h3:b<=N) (hm:N<=1000000000) :
  Calls prog 550 #[.slice (some ⟨g,0,none⟩) N cap,.int .i64 (a:Int),.int .i64 (m:Int),.int .i64 (b:Int),f] w fun e w'=>e = .returned (.tuple #[])/\Arr w' g (Wd (m-a+(b-m)) ps m (m-a) (b-m))/\Chg (fun b=>b=g) w w':=by
 have H:=Hd h;have HN:=Hd hN;have HM:=Hd hm;clear h hN;have w1:IntKind.i64.wrap ((m:Int)-(a:Int))=((m-a:Nat):Int):=by rw [show (m:Int)-(a:Int)=((m-a:Nat):Int) by omega]; exact IntWalk.i64_in _ (by omega)
 have w2:IntKind.i64.wrap ((b:Int)-(m:Int))=((b-m:Nat):Int):=by rw [show (b:Int)-(m:Int)=((b-m:Nat):Int) by omega]; exact IntWalk.i64_in _ (by omega)
 obtain ⟨I0,hI0⟩:∃ x,m-a=x:=⟨_,rfl⟩
 obtain ⟨J0,hJ0⟩:∃ x,b-m=x:=⟨_,rfl⟩
 rw [hI0] at w1 ⊢;rw [hJ0] at w2 ⊢;have hi1:0<I0:=by omega
 have hj1:0<J0:=by omega
 have hiM:I0<=m:=by omega
 have hjN:m+J0<=N:=by omega
 clear hm hI0 hJ0 h1 h2 h3
 go_enter func550,ntmps550
 go_wp2_with fail
 go_loopw [10,11] (fun x y wr=>∃ (I J:Nat) (qs:List PI),0<I/\I<=I0/\0<J/\J<=J0/\x = .int .i64 I/\y = .int .i64 J/\Hid (qs.length=N)/\Hid (Arr wr g qs)/\Hid (Wd (I0+J0) ps m I0 J0=Wd (I+J) qs m I J)/\Chg (fun b=>b=g) w wr) (fun x y _=>(intOf x).toNat+(intOf y).toNat)
 case atStart=>exact ⟨I0,J0,ps,hi1,Nat.le_refl _,hj1,Nat.le_refl _,rfl,rfl,HN,H,Hd rfl,Chg.refl _ _⟩
 case round =>
  obtain ⟨I,J,qs,hI1,hI2,xh,hJ2,rfl,rfl,HL,HA,HR,hcw⟩:=hrel;have hM:=HM.out;by_cases he:I=J
  ·subst he;have hs:=XW (C:=m-I) (B:=m) (n:=I) (f:=f) HA.out HL.out hcap (by omega) (by omega) (by omega);have w3:IntKind.i64.wrap ((m:Int)-(I:Int))=((m-I:Nat):Int):=by rw [show (m:Int)-(I:Int)=((m-I:Nat):Int) by omega]; exact IntWalk.i64_in _ (by omega)
   obtain ⟨mi,fP⟩:∃ x,m-I=x:=⟨_,rfl⟩
   have HD:=Hd (HR.out.trans (by rw [show I+I=(I+I-1)+1 by omega,Wd,if_pos rfl,fP]));rw [fP] at w3 hs;clear fP hM HR
   go_wp2_with fail
   refine hs.mono ?_;rintro _ w2 ⟨rfl,hA2,hc2⟩;have HA2:=Hd hA2;clear hA2
   go_wp2_with fail
   go_end0
   exact ⟨rfl,by rw [HD.out]; exact HA2.out,hcw.trans hc2 fun _ _ h=>h⟩
  ·by_cases hgt:J<I
   ·have hs:=XW (C:=m-I) (B:=m) (n:=J) (f:=f) HA.out HL.out hcap (by omega) (by omega) (by omega);have w3:IntKind.i64.wrap ((m:Int)-(I:Int))=((m-I:Nat):Int):=by rw [show (m:Int)-(I:Int)=((m-I:Nat):Int) by omega]; exact IntWalk.i64_in _ (by omega)
    have w4:IntKind.i64.wrap ((I:Int)-(J:Int))=((I-J:Nat):Int):=by rw [show (I:Int)-(J:Int)=((I-J:Nat):Int) by omega]; exact IntWalk.i64_in _ (by omega)
    obtain ⟨mi,fP⟩:∃ x,m-I=x:=⟨_,rfl⟩
    obtain ⟨ij,hij⟩:∃ x,I-J=x:=⟨_,rfl⟩
    have HD:=Hd (HR.out.trans (by rw [show I+J=(I+J-1)+1 by omega,Wd,if_neg he,if_pos hgt,fP,hij]));rw [fP] at w3 hs;rw [hij] at w4;have k1:0<ij:=by omega
    have k2:ij<=I0:=by omega
    have k3:ij+J<I+J:=by omega
    have HD2:=Hd (HD.out.trans (Yp (I+J-1) (ij+J) _ m ij J k1 xh (by omega) (Nat.le_refl _)));clear fP hM HR hij HD;have he':¬ ((I:Int)=(J:Int)):=by omega
    go_wp2_with fail
    refine hs.mono ?_;rintro _ w2 ⟨rfl,hA2,hc2⟩;have HA2:=Hd hA2;clear hA2
    go_wp2_with fail
    go_roundw
    case rel=>exact ⟨ij,J,_,k1,k2,xh,hJ2,rfl,rfl,Hd (by rw [QB]; exact HL.out),HA2,HD2,hcw.trans hc2 fun _ _ h=>h⟩
    case measure=>simp [intOf]; omega
   ·have hs:=XW (C:=m-I) (B:=m+J-I) (n:=I) (f:=f) HA.out HL.out hcap (by omega) (by omega) (by omega);have w3:IntKind.i64.wrap ((m:Int)-(I:Int))=((m-I:Nat):Int):=by rw [show (m:Int)-(I:Int)=((m-I:Nat):Int) by omega]; exact IntWalk.i64_in _ (by omega)
    have w4:IntKind.i64.wrap ((J:Int)-(I:Int))=((J-I:Nat):Int):=by rw [show (J:Int)-(I:Int)=((J-I:Nat):Int) by omega]; exact IntWalk.i64_in _ (by omega)
    have w5:IntKind.i64.wrap ((m:Int)+(J:Int))=((m+J:Nat):Int):=by rw [show (m:Int)+(J:Int)=((m+J:Nat):Int) by omega]; exact IntWalk.i64_in _ (by omega)
    have w6:IntKind.i64.wrap (((m+J:Nat):Int)-(I:Int))=((m+J-I:Nat):Int):=by rw [show ((m+J:Nat):Int)-(I:Int)=((m+J-I:Nat):Int) by omega]; exact IntWalk.i64_in _ (by omega)
    obtain ⟨mi,fP⟩:∃ x,m-I=x:=⟨_,rfl⟩
    obtain ⟨ji,hji⟩:∃ x,J-I=x:=⟨_,rfl⟩
    obtain ⟨mj,rP⟩:∃ x,m+J=x:=⟨_,rfl⟩
    obtain ⟨mji,jd⟩:∃ x,mj-I=x:=⟨_,rfl⟩
    have HD:=Hd (HR.out.trans (by rw [show I+J=(I+J-1)+1 by omega,Wd,if_neg he,if_neg hgt,fP,hji,rP,jd]));rw [fP] at w3;rw [hji] at w4;rw [rP] at w5 w6;rw [jd] at w6;rw [fP,rP,jd] at hs;have k1:0<ji:=by omega
    have k2:ji<=J0:=by omega
    have k3:I+ji<I+J:=by omega
    have HD2:=Hd (HD.out.trans (Yp (I+J-1) (I+ji) _ m I ji hI1 k1 (by omega) (Nat.le_refl _)));clear fP hM HR hji HD rP jd;have he':¬ ((I:Int)=(J:Int)):=by omega
    go_wp2_with fail
    refine hs.mono ?_;rintro _ w2 ⟨rfl,hA2,hc2⟩;have HA2:=Hd hA2;clear hA2
    go_wp2_with fail
    go_roundw
    case rel=>exact ⟨I,ji,_,hI1,hI2,k1,k2,rfl,rfl,Hd (by rw [QB]; exact HL.out),HA2,HD2,hcw.trans hc2 fun _ _ h=>h⟩
    case measure=>simp [intOf]; omega
end
section
open Go.RowKit
def QS (a:Nat):Nat->List PI->List PI
 | 0,ps=>ps
 | j+1,ps=>if a<j+1 then (match ps[j+1]?,ps[j]? with
   | some x,some y=>if Xu x y<0 then QS a j ((ps.set (j+1) y).set j x) else ps
   | _,_=>ps) else ps
def JM (a:Nat):Nat->Nat->List PI->List PI
 | 0,_,ps=>ps
 | k+1,i,ps=>JM a k (i+1) (QS a i ps)
theorem VG (a:Nat):∀ j ps,(QS a j ps).length=ps.length
 | 0,_=>rfl
 | j+1,ps=>by
  rw [QS];split
  ·split
   ·split
    ·rw [VG a j]; simp
    ·rfl
   ·rfl
  ·rfl
theorem Fy {α : Type} {l:List α} {i j:Nat} {x y : α} (hx:x∈l) (hy:y∈l) {z : α} (hz:z∈(l.set i x).set j y):z∈l:=by
 rcases List.mem_or_eq_of_mem_set hz with hz | rfl
 ·rcases List.mem_or_eq_of_mem_set hz with hz | rfl
  ·exact hz
  ·exact hx
 ·exact hy
theorem Pj (a:Nat):∀ j ps z,z∈QS a j ps->z∈ps
 | 0,_,_,h=>h
 | j+1,ps,z,h=>by
  rw [QS] at h;split at h
  ·split at h
   ·rename_i x y hx hy;split at h
    ·exact Fy (List.mem_of_getElem? hy) (List.mem_of_getElem? hx) (Pj a j _ z h)
    ·exact h
   ·exact h
  ·exact h
theorem VH (a:Nat):∀ k i ps,(JM a k i ps).length=ps.length
 | 0,_,_=>rfl
 | k+1,i,ps=>by rw [JM,VH a k,VG]
theorem Pk (a:Nat):∀ k i ps z,z∈JM a k i ps->z∈ps
 | 0,_,_,_,h=>h
 | k+1,i,ps,z,h=>Pj a i ps z (Pk a k (i+1) _ z h)
def We:Value := .func (.func 285) #[] #[]
theorem PU {F:Nat->Prop} {w:World} {g N cap a b:Nat} {ps:List PI} (h:Arr w g ps) (hN:ps.length=N) (hcap:N<=cap) (hab:a<=b) (hb:b<=N) (hm:N<=1000000000) (hp:∀ p∈ps,POk F w p) (hF:¬ F g) :
  Calls prog 481 #[.slice (some ⟨g,0,none⟩) N cap,.int .i64 (a:Int),.int .i64 (b:Int),We] w fun e w'=>e = .returned (.tuple #[])/\Arr w' g (JM a (b-(a+1)) (a+1) ps)/\Chg (fun k=>k=g) w w':=by
 have H:=Hd h;have HN:=Hd hN;have HM:=Hd hm;have HP:=Hd hp;have HF:=Hd hF;have wa:IntKind.i64.wrap ((a:Int)+1)=((a+1:Nat):Int):=by rw [show (a:Int)+1=((a+1:Nat):Int) by omega]; exact IntWalk.i64_in _ (by omega)
 have hst:=ZD;clear h hN hm hp hF;unfold We
 go_enter func481,ntmps481
 go_wp2_with fail
 go_loopw [8] (fun x wr=>∃ (I:Nat) (qs:List PI),a+1<=I/\I<=max b (a+1)/\x = .int .i64 I/\Hid (qs.length=N)/\Hid (Arr wr g qs)/\Hid (∀ p∈qs,p∈ps)/\Hid (JM a (b-(a+1)) (a+1) ps=JM a (b-I) I qs)/\Chg (fun k=>k=g) w wr) (fun x _=>b-(intOf x).toNat)
 case atStart=>exact ⟨a+1,ps,Nat.le_refl _,Nat.le_max_right _ _,by go_num,HN,H,Hd (fun p h=>h),Hd rfl,Chg.refl _ _⟩
 case round =>
  obtain ⟨I,qs,hI1,hI2,rfl,HL,HA,HQ,HR,hcw⟩:=hrel;have hM:=HM.out;obtain ⟨wq,hwq⟩:∃ x,x=wr:=⟨_,rfl⟩
  subst hwq;by_cases hlt:I<b
  ·go_wp2_with fail
   go_loopw [9] (fun y wr=>∃ (J:Nat) (rs:List PI),a<=J/\J<=I/\y = .int .i64 J/\Hid (rs.length=N)/\Hid (Arr wr g rs)/\Hid (∀ p∈rs,p∈ps)/\Hid (QS a I qs=QS a J rs)/\Chg (fun k=>k=g) w wr) (fun y _=>(intOf y).toNat)
   case atStart=>exact ⟨I,qs,by omega,Nat.le_refl _,rfl,HL,HA,HQ,Hd rfl,hcw⟩
   case round =>
    clear hcw HA;obtain ⟨J0,rs,xh,hJ2,rfl,HL2,HA2,jK,HR2,hcw⟩:=hrel;by_cases hj:a<J0
    ·obtain ⟨J,rfl⟩:∃ J,J0=J+1:=⟨J0-1,by omega⟩
     obtain ⟨⟨xv,xx⟩,hx⟩:∃ p,rs[J+1]? = some p:=⟨_,List.getElem?_eq_getElem (by rw [HL2.out]; omega)⟩
     obtain ⟨⟨yv,yx⟩,hy⟩:∃ p,rs[J]? = some p:=⟨_,List.getElem?_eq_getElem (by rw [HL2.out]; omega)⟩
     have ha:Arr wr.drew g rs:=HA2.out.Zf ((Chg.refl _ wr).drew);obtain ⟨d2,d3,e2,e3⟩:=ha.cells hx;obtain ⟨d0,d1,e0,e1⟩:=ha.cells hy;have hcd:=hcw.drew;have hpx:POk F wr.drew (xv,xx):=(HP.out _ (jK.out _ (List.mem_of_getElem? hx))).chg hcd fun k hk _ e=>HF.out (e▸hk);have hpy:POk F wr.drew (yv,yx):=(HP.out _ (jK.out _ (List.mem_of_getElem? hy))).chg hcd fun k hk _ e=>HF.out (e▸hk);obtain ⟨cv,hcv⟩:∃ c,Xu (xv,xx) (yv,yx)=c:=⟨_,rfl⟩
     have HD:=Hd (show QS a I qs=if Xu (xv,xx) (yv,yx)<0 then QS a J ((rs.set (J+1) (yv,yx)).set J (xv,xx)) else rs from HR2.out.trans (by rw [QS,if_pos hj,hx,hy]));simp only at d0 d1 d2 d3 e0 e1 e2 e3;rw [hcv] at HD;obtain ⟨j1,hj1⟩:∃ m,J+1=m:=⟨_,rfl⟩
     have HX:=Hd hx;have HY:=Hd hy;rw [hj1] at d2 d3 e2 e3 HD HX;have hjw:IntKind.i64.wrap ((j1:Int)-1)=(J:Int):=by rw [show (j1:Int)-1=(J:Int) by omega]; exact IntWalk.i64_in _ (by omega)
     have l1:j1<N:=by omega
     have l2:J<N:=by omega
     have l3:a<j1:=by omega
     have hji:((J:Int)+1)=(j1:Int):=by omega
     clear hx hy ha HR2;rw [show (((J+1:Nat)):Int)=(j1:Int) by omega]
     go_wp2_with fail
     refine Zh [8,13] (S:=fun wx=>wx.cell? ⟨g,j1*2,none⟩=some xv/\wx.cell? ⟨g,j1*2+1,none⟩=some (.complex .f64 (fl xx.a) (fl xx.b))/\wx.cell? ⟨g,J*2,none⟩=some yv/\wx.cell? ⟨g,J*2+1,none⟩=some (.complex .f64 (fl yx.a) (fl yx.b))) (by kernel_rfl) ⟨d2,d3,d0,d1⟩ (fun hHeld => ?_);refine tkP 0 (some 18) ?_;refine tkP 1 (some 19) ?_;refine tkP 2 (some 20) ?_;refine tkP 3 (some 21) ?_;refine tkP 4 (some 22) ?_;refine tkP 5 (some 23) ?_;refine tkP 6 (some 24) ?_;refine tkP 7 (some 25) ?_;refine tkG 8 (some 26) ?_;refine tkP 9 (some 27) ?_;refine tkP 10 (some 28) ?_;refine tkP 11 (some 29) ?_;refine tkP 12 (some 30) ?_;refine tkG 13 (some 31) ?_;refine Zg (rs:=[14]) (by kernel_rfl) (by simp) ?_;refine Zc.ZN rfl (by kernel_rfl) (fun K hK => ?_) Zc.nil;go_simp;refine (Jk hpx hpy).mono ?_;rintro _ wA ⟨rfl,hA⟩;rw [hcv]
     go_wp2_with fail
     refine hK.out _ _ ?_;clear hK K
     try simp only [Act.put,List.setIfInBounds_toArray,List.set_cons_zero,List.set_cons_succ]
     refine tkP 15 (some 33) ?_;refine tkP 16 (some 34) ?_;refine Zr (by kernel_rfl) ?_ _;have bu:Arr wA g rs:=(HA2.out.Zf ((Chg.refl _ wr).drew)).Zf hA;have cz:Arr wA.drew g rs:=bu.Zf ((Chg.refl _ wA).drew);have hcA:Chg (fun k=>k=g) w wA:=hcd.trans hA fun _ _ h=>h.elim;by_cases hneg:cv<0
     ·obtain ⟨x2,x3,y2,y3⟩:=bu.cells HX.out;obtain ⟨x0,x1,y0,y1⟩:=bu.cells HY.out;obtain ⟨f2,f3,k2,k3⟩:=cz.cells HX.out;obtain ⟨f0,f1,k0,k1⟩:=cz.cells HY.out;have s1:=bu.one HX.out;have s2:=bu.one HY.out;have HW:=Hd (cz.swap HX.out HY.out);simp only at x0 x1 x2 x3 y0 y1 y2 y3 f0 f1 f2 f3 k0 k1 k2 k3 s1 s2;have m1:¬ j1=J:=by omega
      have m2:¬ J=j1:=by omega
      have m3:¬ j1*2=J*2+1:=by omega
      have m4:¬ J*2+1=j1*2:=by omega
      have m5:¬ j1*2+1=J*2:=by omega
      have m6:¬ J*2=j1*2+1:=by omega
      have HD2:=Hd (HD.out.trans (if_pos hneg));have HM1:=Hd (fun z (hz:z∈(rs.set j1 (yv,yx)).set J (xv,xx))=>jK.out z (Fy (List.mem_of_getElem? HY.out) (List.mem_of_getElem? HX.out) hz));clear bu cz d0 d1 d2 d3 e0 e1 e2 e3 hpx hpy HX HY
      go_wp2_with fail
      refine Zh [9,13] (S:=fun wx=>wx.cell? ⟨g,j1*2,none⟩=some xv/\wx.cell? ⟨g,j1*2+1,none⟩=some (.complex .f64 (fl xx.a) (fl xx.b))/\wx.cell? ⟨g,J*2,none⟩=some yv/\wx.cell? ⟨g,J*2+1,none⟩=some (.complex .f64 (fl yx.a) (fl yx.b))) (by kernel_rfl) ⟨f2,f3,f0,f1⟩ (fun hHeld => ?_);refine tkP 0 (some 37) ?_;refine tkP 1 (some 38) ?_;refine tkP 2 (some 39) ?_;refine tkP 3 (some 40) ?_;refine tkP 4 (some 41) ?_;refine tkP 5 (some 42) ?_;refine tkP 6 (some 43) ?_;refine tkP 7 (some 44) ?_;refine tkP 8 (some 45) ?_;refine tkG 9 (some 46) ?_;refine tkP 10 (some 47) ?_;refine tkP 11 (some 48) ?_;refine tkP 12 (some 49) ?_;refine tkG 13 (some 50) ?_;refine tkP 14 (some 51) ?_;refine Zg (rs:=[15]) (by kernel_rfl) (by simp) ?_;refine Zc.ZN rfl (by kernel_rfl) (fun K hK => ?_) Zc.nil;go_simp;refine hK.out _ _ ?_;clear hK K
      try simp only [Act.put,List.setIfInBounds_toArray,List.set_cons_zero,List.set_cons_succ]
      refine tkP 16 (some 52) ?_;refine Zg (rs:=[17]) (by kernel_rfl) (by simp) ?_;refine Zc.ZN rfl (by kernel_rfl) (fun K hK => ?_) Zc.nil;go_simp;refine hK.out _ _ ?_;clear hK K
      try simp only [Act.put,List.setIfInBounds_toArray,List.set_cons_zero,List.set_cons_succ]
      refine Zr (by kernel_rfl) ?_ _
      go_wp2_with fail
      go_roundw
      case rel =>
       refine ⟨J,_,by omega,by omega,rfl,?_,HW,HM1,HD2,?_⟩
       ·exact Hd (by simp; exact HL2.out)
       ·exact (hcA.drew).trans (Ye wA.drew g j1 J (xv,xx) (yv,yx)) fun _ _ h=>h
      case measure=>simp [intOf]; omega
     ·have HD2:=Hd (HD.out.trans (if_neg hneg));have jL:=Hd bu;have aaW:IntKind.i64.wrap ((I:Int)+1)=((I+1:Nat):Int):=by rw [show (I:Int)+1=((I+1:Nat):Int) by omega]; exact IntWalk.i64_in _ (by omega)
      clear bu cz d0 d1 d2 d3 e0 e1 e2 e3 hpx hpy HX HY
      go_wp2_with fail
      go_roundw
      case rel =>
       refine ⟨I+1,_,by omega,by omega,by go_num,HL2,jL,jK,Hd (HR.out.trans ?_),hcA⟩;rw [show b-I=(b-(I+1))+1 by omega,JM,HD2.out]
      case measure=>simp [intOf]; omega
    ·have hJa:J0=a:=by omega
     subst hJa;have HD2:=Hd (HR2.out.trans (show QS J0 J0 rs=rs by cases J0 with | zero=>rfl | succ n=>rw [QS,if_neg (by omega)]))
     go_wp2_with fail
     refine Zh [8,13] (S:=fun _=>True) (by kernel_rfl) trivial (fun hHeld => ?_);refine tkP 0 (some 18) ?_;refine tkP 1 (some 19) ?_;refine tkP 2 (some 20) ?_;refine tkP 3 (some 21) ?_;refine tkV 4 (some 22) ?_;refine tkV 5 (some 23) ?_;refine tkV 6 (some 24) ?_;refine tkV 7 (some 25) ?_;refine tkV 8 (some 26) ?_;refine tkV 9 (some 27) ?_;refine tkV 10 (some 28) ?_;refine tkV 11 (some 29) ?_;refine tkV 12 (some 30) ?_;refine tkV 13 (some 31) ?_;refine tkV 14 (some 32) ?_;refine tkV 15 (some 33) ?_;refine tkP 16 (some 34) ?_;refine Zr (by kernel_rfl) ?_ _
     go_wp2_with fail
     go_roundw
     case rel =>
      refine ⟨I+1,rs,by omega,by omega,by go_num,HL2,Hd (HA2.out.Zf ((Chg.refl _ wr).drew)),jK,Hd (HR.out.trans ?_),hcw.drew⟩;rw [show b-I=(b-(I+1))+1 by omega,JM,HD2.out]
     case measure=>simp [intOf]; omega
  ·have hge:¬ ((I:Int)<(b:Int)):=by omega
   have e:b-I=0:=by omega
   rw [e] at HR
   go_wp2_with fail
   go_end0
   exact ⟨rfl,by rw [HR.out]; exact HA.out,hcw⟩
end
section
open Go.RowKit
def bs1 (ps:List PI) (x:PI):Nat->Nat->Nat->Nat
 | 0,i,_=>i
 | f+1,i,j=>if i<j then (match ps[(i+j) / 2]? with
   | some y=>if Xu y x<0 then bs1 ps x f ((i+j) / 2+1) j else bs1 ps x f i ((i+j) / 2)
   | none=>i) else i
def bs2 (ps:List PI) (x:PI):Nat->Nat->Nat->Nat
 | 0,i,_=>i
 | f+1,i,j=>if i<j then (match ps[(i+j) / 2]? with
   | some y=>if Xu x y<0 then bs2 ps x f i ((i+j) / 2) else bs2 ps x f ((i+j) / 2+1) j
   | none=>i) else i
def bs3 (ps:List PI) (p:Nat):Nat->Nat->Nat->Nat
 | 0,i,_=>i
 | f+1,i,j=>if i<j then (match ps[p-(i+j) / 2]?,ps[(i+j) / 2]? with
   | some x,some y=>if Xu x y<0 then bs3 ps p f i ((i+j) / 2) else bs3 ps p f ((i+j) / 2+1) j
   | _,_=>i) else i
def upN:Nat->Nat->List PI->List PI
 | 0,_,ps=>ps
 | c+1,k,ps=>upN c (k+1) (sw ps k (k+1))
def Kv:Nat->Nat->List PI->List PI
 | 0,_,ps=>ps
 | c+1,k,ps=>Kv c (k-1) (sw ps k (k-1))
theorem Zby {F:Nat->Prop} {w:World} {g N cap a m b:Nat} {ps:List PI} (h:Arr w g ps) (hN:ps.length=N) (hcap:N<=cap) (AA:a+1=m) (hmb:m<b) (hb:b<=N) (hm:N<=1000000000) (hp:∀ p∈ps,POk F w p) (hF:¬ F g) {x0:PI} (hx0:ps[a]? = some x0) :
  Calls prog 482 #[.slice (some ⟨g,0,none⟩) N cap,.int .i64 (a:Int),.int .i64 (m:Int),.int .i64 (b:Int),We] w fun e w'=>e = .returned (.tuple #[])/\Arr w' g (upN (bs1 ps x0 (b-m) m b-1-a) a ps)/\Chg (fun k=>k=g) w w':=by
 have H:=Hd h;have HN:=Hd hN;have HM:=Hd hm;have HP:=Hd hp;have HF:=Hd hF;have HX:=Hd hx0;have w0:IntKind.i64.wrap ((m:Int)-(a:Int))=1:=by rw [show (m:Int)-(a:Int)=1 by omega]; exact IntWalk.i64_in _ (by omega)
 have hst:=ZD;obtain ⟨xv,xx⟩:=x0;clear h hN hm hp hF hx0;unfold We
 go_enter func482,ntmps482
 go_wp2_with fail
 go_loopw [10,11] (fun x y wr=>∃ (I J:Nat),m<=I/\I<=J/\J<=b/\x = .int .i64 I/\y = .int .i64 J/\Hid (Arr wr g ps)/\Hid (∃ f,J-I<=f/\bs1 ps (xv,xx) (b-m) m b=bs1 ps (xv,xx) f I J)/\Chg (fun k=>k=g) w wr) (fun x y _=>(intOf y).toNat-(intOf x).toNat)
 case atStart=>exact ⟨m,b,Nat.le_refl _,by omega,Nat.le_refl _,rfl,rfl,H,Hd ⟨b-m,Nat.le_refl _,rfl⟩,Chg.refl _ _⟩
 case round =>
  obtain ⟨I,J,hI1,hI2,hJ,rfl,rfl,HA,HR,hcw⟩:=hrel;obtain ⟨wq,hwq⟩:∃ x,x=wr:=⟨_,rfl⟩
  subst hwq;by_cases hlt:I<J
  ·have hM:=HM.out;obtain ⟨f0,hf0,hR⟩:=HR.out;obtain ⟨f,rfl⟩:∃ f,f0=f+1:=⟨f0-1,by omega⟩
   obtain ⟨h,hh⟩:∃ h,(I+J) / 2=h:=⟨_,rfl⟩
   have k1:I<=h:=by omega
   have k2:h<J:=by omega
   obtain ⟨⟨yv,yx⟩,hy⟩:∃ p,ps[h]? = some p:=⟨_,List.getElem?_eq_getElem (by rw [HN.out]; omega)⟩
   rw [bs1,if_pos hlt,hh,hy] at hR;simp only at hR;have hM':=hM;have ha:Arr wq.drew g ps:=HA.out.Zf ((Chg.refl _ wq).drew);obtain ⟨d2,d3,e2,e3⟩:=ha.cells hy;obtain ⟨d0,d1,e0,e1⟩:=ha.cells HX.out;have hcd:=hcw.drew;have hpx:POk F wq.drew (yv,yx):=(HP.out _ (List.mem_of_getElem? hy)).chg hcd fun k hk _ e=>HF.out (e▸hk);have hpy:POk F wq.drew (xv,xx):=(HP.out _ (List.mem_of_getElem? HX.out)).chg hcd fun k hk _ e=>HF.out (e▸hk);obtain ⟨cv,hcv⟩:∃ c,Xu (yv,yx) (xv,xx)=c:=⟨_,rfl⟩
   rw [hcv] at hR;have HR2:=Hd hR;simp only at d0 d1 d2 d3 e0 e1 e2 e3;have l1:h<N:=by omega
   have l2:a<N:=by omega
   have v1:IntKind.i64.wrap ((I:Int)+(J:Int))=((I+J:Nat):Int):=by rw [show (I:Int)+(J:Int)=((I+J:Nat):Int) by omega]; exact IntWalk.i64_in _ (by omega)
   obtain ⟨ij,hij⟩:∃ m,I+J=m:=⟨_,rfl⟩
   rw [hij] at v1 hh;have v2:IntKind.u64.wrap (ij:Int)=(ij:Int):=by rw [IntKind.wrap_u64]; omega
   have v4:IntKind.u64.wrap (h:Int)=(h:Int):=by rw [IntKind.wrap_u64]; omega
   have v5:IntKind.i64.wrap (h:Int)=(h:Int):=IntWalk.i64_in _ (by omega);have v3:(ij:Int) / 2=(h:Int):=by omega
   have v6:ij / 2=h:=hh;clear hR hy ha hM hM' hij hh
   go_wp2_with fail
   refine Zh [4,8] (S:=fun wx=>wx.cell? ⟨g,h*2,none⟩=some yv/\wx.cell? ⟨g,h*2+1,none⟩=some (.complex .f64 (fl yx.a) (fl yx.b))/\wx.cell? ⟨g,a*2,none⟩=some xv/\wx.cell? ⟨g,a*2+1,none⟩=some (.complex .f64 (fl xx.a) (fl xx.b))) (by kernel_rfl) ⟨d2,d3,d0,d1⟩ (fun hHeld => ?_);refine tkP 0 (some 40) ?_;refine tkP 1 (some 41) ?_;refine tkP 2 (some 42) ?_;refine tkP 3 (some 43) ?_;refine tkG 4 (some 44) ?_;refine tkP 5 (some 45) ?_;refine tkP 6 (some 46) ?_;refine tkP 7 (some 47) ?_;refine tkG 8 (some 48) ?_;refine Zg (rs:=[9]) (by kernel_rfl) (by simp) ?_;refine Zc.ZN rfl (by kernel_rfl) (fun K hK => ?_) Zc.nil;go_simp;refine (Jk hpx hpy).mono ?_;rintro _ wA ⟨rfl,hA⟩;rw [hcv]
   go_wp2_with fail
   refine hK.out _ _ ?_;clear hK K
   try simp only [Act.put,List.setIfInBounds_toArray,List.set_cons_zero,List.set_cons_succ]
   refine tkP 10 (some 50) ?_;refine Zr (by kernel_rfl) ?_ _;have bu:=Hd ((HA.out.Zf ((Chg.refl _ wq).drew)).Zf hA);have hcA:Chg (fun k=>k=g) w wA:=hcd.trans hA fun _ _ h=>h.elim;clear d0 d1 d2 d3 e0 e1 e2 e3 hpx hpy v1 v2 v3 v4;by_cases hneg:cv<0
   ·have HR3:=Hd (HR2.out.trans (if_pos hneg));have hM:=HM.out;have v7:IntKind.i64.wrap ((h:Int)+1)=((h+1:Nat):Int):=by rw [show (h:Int)+1=((h+1:Nat):Int) by omega]; exact IntWalk.i64_in _ (by omega)
    go_wp2_with fail
    go_roundw
    case rel=>exact ⟨h+1,J,by omega,by omega,by omega,by go_num,rfl,bu,Hd ⟨f,by omega,HR3.out⟩,hcA⟩
    case measure=>simp [intOf]; omega
   ·have HR3:=Hd (HR2.out.trans (if_neg hneg))
    go_wp2_with fail
    go_roundw
    case rel=>exact ⟨I,h,by omega,by omega,by omega,rfl,rfl,bu,Hd ⟨f,by omega,HR3.out⟩,hcA⟩
    case measure=>simp [intOf]; omega
  ·have dI:I=J:=by omega
   subst dI
   have hres:bs1 ps (xv,xx) (b-m) m b=I:=by
    obtain ⟨f,hf,hR⟩:=HR.out;rw [hR];cases f with
    | zero=>rfl
    | succ f=>rw [bs1,if_neg (by omega)]
   have kV:=Hd hres;have hM:=HM.out;have v1:IntKind.i64.wrap ((I:Int)-1)=((I-1:Nat):Int):=by rw [show (I:Int)-1=((I-1:Nat):Int) by omega]; exact IntWalk.i64_in _ (by omega)
   obtain ⟨i1,hi1⟩:∃ x,I-1=x:=⟨_,rfl⟩
   rw [hi1] at v1;clear hres
   go_wp2_with fail
   go_loopw [13] (fun x wr=>∃ (Q:Nat) (qs:List PI),a<=Q/\Q<=i1/\x = .int .i64 Q/\Hid (qs.length=N)/\Hid (Arr wr g qs)/\Hid (upN (i1-a) a ps=upN (i1-Q) Q qs)/\Chg (fun k=>k=g) w wr) (fun x _=>i1-(intOf x).toNat)
   case atStart=>exact ⟨a,ps,Nat.le_refl _,by omega,rfl,HN,HA,Hd rfl,hcw⟩
   case round =>
    clear hcw HA;obtain ⟨Q,qs,hQ1,hQ2,rfl,HL,HA,HU,hcw⟩:=hrel;by_cases hlt2:Q<i1
    ·obtain ⟨q1,hq1⟩:∃ m,Q+1=m:=⟨_,rfl⟩
     obtain ⟨⟨yv,yx⟩,hy⟩:∃ p,qs[Q]? = some p:=⟨_,List.getElem?_eq_getElem (by rw [HL.out]; omega)⟩
     obtain ⟨⟨zv,zx⟩,hz⟩:∃ p,qs[q1]? = some p:=⟨_,List.getElem?_eq_getElem (by rw [HL.out]; omega)⟩
     have cz:Arr wr.drew g qs:=HA.out.Zf ((Chg.refl _ wr).drew);obtain ⟨x2,x3,y2,y3⟩:=HA.out.cells hz;obtain ⟨x0,x1,y0,y1⟩:=HA.out.cells hy;obtain ⟨f2,f3,k2,k3⟩:=cz.cells hz;obtain ⟨f0,f1,k0,k1⟩:=cz.cells hy;have s1:=cz.one hy;have s2:=cz.one hz;have HW:=Hd (cz.swap hy hz);have xk:=Hd (HU.out.trans (show upN (i1-Q) Q qs=upN (i1-q1) q1 ((qs.set Q (zv,zx)).set q1 (yv,yx)) by rw [show i1-Q=(i1-q1)+1 by omega,upN,hq1,sw,hy,hz]));simp only at x0 x1 x2 x3 y0 y1 y2 y3 f0 f1 f2 f3 k0 k1 k2 k3 s1 s2;have l1:Q<N:=by omega
     have l2:q1<N:=by omega
     have m1:¬ q1=Q:=by omega
     have m2:¬ Q=q1:=by omega
     have m3:¬ q1*2=Q*2+1:=by omega
     have m4:¬ Q*2+1=q1*2:=by omega
     have m5:¬ q1*2+1=Q*2:=by omega
     have m6:¬ Q*2=q1*2+1:=by omega
     have v7:IntKind.i64.wrap ((Q:Int)+1)=(q1:Int):=by rw [show (Q:Int)+1=(q1:Int) by omega]; exact IntWalk.i64_in _ (by omega)
     clear cz hy hz HU
     go_wp2_with fail
     refine Zh [9,13] (S:=fun wx=>wx.cell? ⟨g,q1*2,none⟩=some zv/\wx.cell? ⟨g,q1*2+1,none⟩=some (.complex .f64 (fl zx.a) (fl zx.b))/\wx.cell? ⟨g,Q*2,none⟩=some yv/\wx.cell? ⟨g,Q*2+1,none⟩=some (.complex .f64 (fl yx.a) (fl yx.b))) (by kernel_rfl) ⟨f2,f3,f0,f1⟩ (fun hHeld => ?_);refine tkP 0 (some 61) ?_;refine tkP 1 (some 62) ?_;refine tkP 2 (some 63) ?_;refine tkP 3 (some 64) ?_;refine tkP 4 (some 65) ?_;refine tkP 5 (some 66) ?_;refine tkP 6 (some 67) ?_;refine tkP 7 (some 68) ?_;refine tkP 8 (some 69) ?_;refine tkG 9 (some 70) ?_;refine tkP 10 (some 71) ?_;refine tkP 11 (some 72) ?_;refine tkP 12 (some 73) ?_;refine tkG 13 (some 74) ?_;refine tkP 14 (some 75) ?_;refine Zg (rs:=[15]) (by kernel_rfl) (by simp) ?_;refine Zc.ZN rfl (by kernel_rfl) (fun K hK => ?_) Zc.nil;go_simp;refine hK.out _ _ ?_;clear hK K
     try simp only [Act.put,List.setIfInBounds_toArray,List.set_cons_zero,List.set_cons_succ]
     refine tkP 16 (some 76) ?_;refine Zg (rs:=[17]) (by kernel_rfl) (by simp) ?_;refine Zc.ZN rfl (by kernel_rfl) (fun K hK => ?_) Zc.nil;go_simp;refine hK.out _ _ ?_;clear hK K
     try simp only [Act.put,List.setIfInBounds_toArray,List.set_cons_zero,List.set_cons_succ]
     refine Zr (by kernel_rfl) ?_ _
     go_wp2_with fail
     go_roundw
     case rel =>
      refine ⟨q1,_,by omega,by omega,rfl,?_,HW,xk,?_⟩
      ·exact Hd (by simp; exact HL.out)
      ·exact (hcw.drew).trans (Ye wr.drew g Q q1 (yv,yx) (zv,zx)) fun _ _ h=>h
     case measure=>simp [intOf]; omega
    ·have hge:¬ ((Q:Int)<(i1:Int)):=by omega
     have e:i1-Q=0:=by omega
     rw [e] at HU
     go_wp2_with fail
     (try simp only [Exit.inBlock,Exit.then])
     refine bodyPost_ret (results_none rfl _ _ _) rfl ?_;exact ⟨rfl,by rw [kV.out,hi1,HU.out]; exact HA.out,hcw⟩
end
section
open Go.RowKit
theorem Zbz {F:Nat->Prop} {w:World} {g N cap a m b:Nat} {ps:List PI} (h:Arr w g ps) (hN:ps.length=N) (hcap:N<=cap) (AA:a+1<m) (hmb:m+1=b) (hb:b<=N) (hm:N<=1000000000) (hp:∀ p∈ps,POk F w p) (hF:¬ F g) {x0:PI} (hx0:ps[m]? = some x0) :
  Calls prog 482 #[.slice (some ⟨g,0,none⟩) N cap,.int .i64 (a:Int),.int .i64 (m:Int),.int .i64 (b:Int),We] w fun e w'=>e = .returned (.tuple #[])/\Arr w' g (Kv (m-bs2 ps x0 (m-a) a m) m ps)/\Chg (fun k=>k=g) w w':=by
 have H:=Hd h;have HN:=Hd hN;have HM:=Hd hm;have HP:=Hd hp;have HF:=Hd hF;have HX:=Hd hx0;have w0:IntKind.i64.wrap ((m:Int)-(a:Int))=((m-a:Nat):Int):=by rw [show (m:Int)-(a:Int)=((m-a:Nat):Int) by omega]; exact IntWalk.i64_in _ (by omega)
 obtain ⟨ma,aJ⟩:∃ x,m-a=x:=⟨_,rfl⟩
 have aa0:¬ ma=1:=by omega
 have aa1:((ma:Int)==1)=false:=beq_eq_false_iff_ne.2 (by omega);have w00:IntKind.i64.wrap ((b:Int)-(m:Int))=1:=by rw [show (b:Int)-(m:Int)=1 by omega]; exact IntWalk.i64_in _ (by omega)
 rw [aJ] at w0 ⊢;have hst:=ZD;obtain ⟨xv,xx⟩:=x0;clear h hN hm hp hF hx0;unfold We
 go_enter func482,ntmps482
 go_wp2_with fail
 go_loopw [14,15] (fun x y wr=>∃ (I J:Nat),a<=I/\I<=J/\J<=m/\x = .int .i64 I/\y = .int .i64 J/\Hid (Arr wr g ps)/\Hid (∃ f,J-I<=f/\bs2 ps (xv,xx) ma a m=bs2 ps (xv,xx) f I J)/\Chg (fun k=>k=g) w wr) (fun x y _=>(intOf y).toNat-(intOf x).toNat)
 case atStart=>exact ⟨a,m,Nat.le_refl _,by omega,Nat.le_refl _,rfl,rfl,H,Hd ⟨ma,by omega,rfl⟩,Chg.refl _ _⟩
 case round =>
  obtain ⟨I,J,hI1,hI2,hJ,rfl,rfl,HA,HR,hcw⟩:=hrel;obtain ⟨wq,hwq⟩:∃ x,x=wr:=⟨_,rfl⟩
  subst hwq;by_cases hlt:I<J
  ·have hM:=HM.out;obtain ⟨f0,hf0,hR⟩:=HR.out;obtain ⟨f,rfl⟩:∃ f,f0=f+1:=⟨f0-1,by omega⟩
   obtain ⟨h,hh⟩:∃ h,(I+J) / 2=h:=⟨_,rfl⟩
   have k1:I<=h:=by omega
   have k2:h<J:=by omega
   obtain ⟨⟨yv,yx⟩,hy⟩:∃ p,ps[h]? = some p:=⟨_,List.getElem?_eq_getElem (by rw [HN.out]; omega)⟩
   rw [bs2,if_pos hlt,hh,hy] at hR;simp only at hR;have hM':=hM;have ha:Arr wq.drew g ps:=HA.out.Zf ((Chg.refl _ wq).drew);obtain ⟨d0,d1,e0,e1⟩:=ha.cells hy;obtain ⟨d2,d3,e2,e3⟩:=ha.cells HX.out;have hcd:=hcw.drew;have hpy:POk F wq.drew (yv,yx):=(HP.out _ (List.mem_of_getElem? hy)).chg hcd fun k hk _ e=>HF.out (e▸hk);have hpx:POk F wq.drew (xv,xx):=(HP.out _ (List.mem_of_getElem? HX.out)).chg hcd fun k hk _ e=>HF.out (e▸hk);obtain ⟨cv,hcv⟩:∃ c,Xu (xv,xx) (yv,yx)=c:=⟨_,rfl⟩
   rw [hcv] at hR;have HR2:=Hd hR;simp only at d0 d1 d2 d3 e0 e1 e2 e3;have l1:h<N:=by omega
   have l2:m<N:=by omega
   have v1:IntKind.i64.wrap ((I:Int)+(J:Int))=((I+J:Nat):Int):=by rw [show (I:Int)+(J:Int)=((I+J:Nat):Int) by omega]; exact IntWalk.i64_in _ (by omega)
   obtain ⟨ij,hij⟩:∃ m,I+J=m:=⟨_,rfl⟩
   rw [hij] at v1 hh;have v2:IntKind.u64.wrap (ij:Int)=(ij:Int):=by rw [IntKind.wrap_u64]; omega
   have v4:IntKind.u64.wrap (h:Int)=(h:Int):=by rw [IntKind.wrap_u64]; omega
   have v5:IntKind.i64.wrap (h:Int)=(h:Int):=IntWalk.i64_in _ (by omega);have v3:(ij:Int) / 2=(h:Int):=by omega
   have v6:ij / 2=h:=hh;clear hR hy ha hM hM' hij hh;have hM:=HM.out;by_cases hneg:cv<0
   ·go_wp2_with fail
    refine Zh [4,8] (S:=fun wx=>wx.cell? ⟨g,m*2,none⟩=some xv/\wx.cell? ⟨g,m*2+1,none⟩=some (.complex .f64 (fl xx.a) (fl xx.b))/\wx.cell? ⟨g,h*2,none⟩=some yv/\wx.cell? ⟨g,h*2+1,none⟩=some (.complex .f64 (fl yx.a) (fl yx.b))) (by kernel_rfl) ⟨d2,d3,d0,d1⟩ (fun hHeld => ?_);refine tkP 0 (some 92) ?_;refine tkP 1 (some 93) ?_;refine tkP 2 (some 94) ?_;refine tkP 3 (some 95) ?_;refine tkG 4 (some 96) ?_;refine tkP 5 (some 97) ?_;refine tkP 6 (some 98) ?_;refine tkP 7 (some 99) ?_;refine tkG 8 (some 100) ?_;refine Zg (rs:=[9]) (by kernel_rfl) (by simp) ?_;refine Zc.ZN rfl (by kernel_rfl) (fun K hK => ?_) Zc.nil;go_simp;refine (Jk hpx hpy).mono ?_;rintro _ wA ⟨rfl,hA⟩;rw [hcv]
    go_wp2_with fail
    refine hK.out _ _ ?_;clear hK K
    try simp only [Act.put,List.setIfInBounds_toArray,List.set_cons_zero,List.set_cons_succ]
    refine tkP 10 (some 102) ?_;refine tkP 11 (some 103) ?_;refine Zr (by kernel_rfl) ?_ _;have bu:=Hd ((HA.out.Zf ((Chg.refl _ wq).drew)).Zf hA);have hcA:Chg (fun k=>k=g) w wA:=hcd.trans hA fun _ _ h=>h.elim;clear d0 d1 d2 d3 e0 e1 e2 e3 hpx hpy v1 v2 v3 v4;have HR3:=Hd (HR2.out.trans (if_pos (by omega)))
    go_wp2_with fail
    go_roundw
    case rel=>exact ⟨I,h,by omega,by omega,by omega,rfl,rfl,bu,Hd ⟨f,by omega,HR3.out⟩,hcA⟩
    case measure=>simp [intOf]; omega
   ·go_wp2_with fail
    refine Zh [4,8] (S:=fun wx=>wx.cell? ⟨g,m*2,none⟩=some xv/\wx.cell? ⟨g,m*2+1,none⟩=some (.complex .f64 (fl xx.a) (fl xx.b))/\wx.cell? ⟨g,h*2,none⟩=some yv/\wx.cell? ⟨g,h*2+1,none⟩=some (.complex .f64 (fl yx.a) (fl yx.b))) (by kernel_rfl) ⟨d2,d3,d0,d1⟩ (fun hHeld => ?_);refine tkP 0 (some 92) ?_;refine tkP 1 (some 93) ?_;refine tkP 2 (some 94) ?_;refine tkP 3 (some 95) ?_;refine tkG 4 (some 96) ?_;refine tkP 5 (some 97) ?_;refine tkP 6 (some 98) ?_;refine tkP 7 (some 99) ?_;refine tkG 8 (some 100) ?_;refine Zg (rs:=[9]) (by kernel_rfl) (by simp) ?_;refine Zc.ZN rfl (by kernel_rfl) (fun K hK => ?_) Zc.nil;go_simp;refine (Jk hpx hpy).mono ?_;rintro _ wA ⟨rfl,hA⟩;rw [hcv]
    go_wp2_with fail
    refine hK.out _ _ ?_;clear hK K
    try simp only [Act.put,List.setIfInBounds_toArray,List.set_cons_zero,List.set_cons_succ]
    refine tkP 10 (some 102) ?_;refine tkP 11 (some 103) ?_;refine Zr (by kernel_rfl) ?_ _;have bu:=Hd ((HA.out.Zf ((Chg.refl _ wq).drew)).Zf hA);have hcA:Chg (fun k=>k=g) w wA:=hcd.trans hA fun _ _ h=>h.elim;clear d0 d1 d2 d3 e0 e1 e2 e3 hpx hpy v1 v2 v3 v4;have HR3:=Hd (HR2.out.trans (if_neg (by omega)));have v7:IntKind.i64.wrap ((h:Int)+1)=((h+1:Nat):Int):=by rw [show (h:Int)+1=((h+1:Nat):Int) by omega]; exact IntWalk.i64_in _ (by omega)
    go_wp2_with fail
    go_roundw
    case rel=>exact ⟨h+1,J,by omega,by omega,by omega,by go_num,rfl,bu,Hd ⟨f,by omega,HR3.out⟩,hcA⟩
    case measure=>simp [intOf]; omega
    all_goals (exfalso; rename_i hx; simp at hx; omega)
  ·have dI:I=J:=by omega
   subst dI
   have hres:bs2 ps (xv,xx) ma a m=I:=by
    obtain ⟨f,hf,hR⟩:=HR.out;rw [hR];cases f with
    | zero=>rfl
    | succ f=>rw [bs2,if_neg (by omega)]
   have kV:=Hd hres;have hM:=HM.out;clear hres
   go_wp2_with fail
   go_loopw [17] (fun x wr=>∃ (Q:Nat) (qs:List PI),I<=Q/\Q<=m/\x = .int .i64 Q/\Hid (qs.length=N)/\Hid (Arr wr g qs)/\Hid (Kv (m-I) m ps=Kv (Q-I) Q qs)/\Chg (fun k=>k=g) w wr) (fun x _=>(intOf x).toNat)
   case atStart=>exact ⟨m,ps,by omega,Nat.le_refl _,rfl,HN,HA,Hd rfl,hcw⟩
   case round =>
    clear hcw HA;obtain ⟨q1,qs,hQ1,hQ2,rfl,HL,HA,HU,hcw⟩:=hrel;by_cases hlt2:I<q1
    ·obtain ⟨Q,hq1⟩:∃ m,m+1=q1:=⟨q1-1,by omega⟩
     obtain ⟨⟨yv,yx⟩,hy⟩:∃ p,qs[Q]? = some p:=⟨_,List.getElem?_eq_getElem (by rw [HL.out]; omega)⟩
     obtain ⟨⟨zv,zx⟩,hz⟩:∃ p,qs[q1]? = some p:=⟨_,List.getElem?_eq_getElem (by rw [HL.out]; omega)⟩
     have cz:Arr wr.drew g qs:=HA.out.Zf ((Chg.refl _ wr).drew);obtain ⟨x2,x3,y2,y3⟩:=HA.out.cells hz;obtain ⟨x0,x1,y0,y1⟩:=HA.out.cells hy;obtain ⟨f2,f3,k2,k3⟩:=cz.cells hz;obtain ⟨f0,f1,k0,k1⟩:=cz.cells hy;have s1:=cz.one hy;have s2:=cz.one hz;have HW:=Hd (cz.swap hz hy);have xk:=Hd (HU.out.trans (show Kv (q1-I) q1 qs=Kv (Q-I) Q ((qs.set q1 (yv,yx)).set Q (zv,zx)) by rw [show q1-I=(Q-I)+1 by omega,Kv,show q1-1=Q by omega,sw,hy,hz]));simp only at x0 x1 x2 x3 y0 y1 y2 y3 f0 f1 f2 f3 k0 k1 k2 k3 s1 s2;have l1:Q<N:=by omega
     have l2:q1<N:=by omega
     have m1:¬ q1=Q:=by omega
     have m2:¬ Q=q1:=by omega
     have m3:¬ q1*2=Q*2+1:=by omega
     have m4:¬ Q*2+1=q1*2:=by omega
     have m5:¬ q1*2+1=Q*2:=by omega
     have m6:¬ Q*2=q1*2+1:=by omega
     have v7:IntKind.i64.wrap ((q1:Int)-1)=(Q:Int):=by rw [show (q1:Int)-1=(Q:Int) by omega]; exact IntWalk.i64_in _ (by omega)
     clear cz hy hz HU
     go_wp2_with fail
     refine Zh [9,13] (S:=fun wx=>wx.cell? ⟨g,Q*2,none⟩=some yv/\wx.cell? ⟨g,Q*2+1,none⟩=some (.complex .f64 (fl yx.a) (fl yx.b))/\wx.cell? ⟨g,q1*2,none⟩=some zv/\wx.cell? ⟨g,q1*2+1,none⟩=some (.complex .f64 (fl zx.a) (fl zx.b))) (by kernel_rfl) ⟨f0,f1,f2,f3⟩ (fun hHeld => ?_);refine tkP 0 (some 113) ?_;refine tkP 1 (some 114) ?_;refine tkP 2 (some 115) ?_;refine tkP 3 (some 116) ?_;refine tkP 4 (some 117) ?_;refine tkP 5 (some 118) ?_;refine tkP 6 (some 119) ?_;refine tkP 7 (some 120) ?_;refine tkP 8 (some 121) ?_;refine tkG 9 (some 122) ?_;refine tkP 10 (some 123) ?_;refine tkP 11 (some 124) ?_;refine tkP 12 (some 125) ?_;refine tkG 13 (some 126) ?_;refine tkP 14 (some 127) ?_;refine Zg (rs:=[15]) (by kernel_rfl) (by simp) ?_;refine Zc.ZN rfl (by kernel_rfl) (fun K hK => ?_) Zc.nil;go_simp;refine hK.out _ _ ?_;clear hK K
     try simp only [Act.put,List.setIfInBounds_toArray,List.set_cons_zero,List.set_cons_succ]
     refine tkP 16 (some 128) ?_;refine Zg (rs:=[17]) (by kernel_rfl) (by simp) ?_;refine Zc.ZN rfl (by kernel_rfl) (fun K hK => ?_) Zc.nil;go_simp;refine hK.out _ _ ?_;clear hK K
     try simp only [Act.put,List.setIfInBounds_toArray,List.set_cons_zero,List.set_cons_succ]
     refine Zr (by kernel_rfl) ?_ _
     go_wp2_with fail
     go_roundw
     case rel =>
      refine ⟨Q,_,by omega,by omega,rfl,?_,HW,xk,?_⟩
      ·exact Hd (by simp; exact HL.out)
      ·exact (hcw.drew).trans (Ye wr.drew g q1 Q (zv,zx) (yv,yx)) fun _ _ h=>h
     case measure=>simp [intOf]; omega
    ·have hge:¬ ((I:Int)<(q1:Int)):=by omega
     have e:q1-I=0:=by omega
     rw [e] at HU
     go_wp2_with fail
     (try simp only [Exit.inBlock,Exit.then])
     refine bodyPost_ret (results_none rfl _ _ _) rfl ?_;exact ⟨rfl,by rw [kV.out,HU.out]; exact HA.out,hcw⟩
end
section
def VI:Nat->Nat->Nat->Nat->List PI->List PI
 | 0,_,_,_,ps=>ps
 | f+1,a,m,b,ps =>
  if a+1=m then (match ps[a]? with
   | some x=>upN (bs1 ps x (b-m) m b-1-a) a ps
   | none=>ps)
  else if m+1=b then (match ps[m]? with
   | some x=>Kv (m-bs2 ps x (m-a) a m) m ps
   | none=>ps)
  else
   let mid:=(a+b) / 2
   let n:=mid+m
   let lo:=if mid<m then n-b else a
   let hi:=if mid<m then mid else m
   let st:=bs3 ps (n-1) (hi-lo) lo hi
   let en:=n-st
   let p1:=if st<m/\m<en then Wd (m-st+(en-m)) ps m (m-st) (en-m) else ps
   let p2:=if a<st/\st<mid then VI f a st mid p1 else p1
   if mid<en/\en<b then VI f mid en b p2 else p2
theorem UK {ps:List PI} {i j:Nat} {z:PI} (h:z∈sw ps i j):z∈ps:=by
 unfold sw at h;split at h
 ·rename_i p q hp hq;exact Fy (List.mem_of_getElem? hq) (List.mem_of_getElem? hp) h
 ·exact h
theorem E1:∀ c k ps z,z∈upN c k ps->z∈ps
 | 0,_,_,_,h=>h
 | c+1,k,ps,z,h=>UK (E1 c (k+1) _ z h)
theorem H4:∀ c k ps z,z∈Kv c k ps->z∈ps
 | 0,_,_,_,h=>h
 | c+1,k,ps,z,h=>UK (H4 c (k-1) _ z h)
theorem WW (ps:List PI) (a b:Nat):∀ k z,z∈Jl ps a b k->z∈ps
 | 0,_,h=>h
 | k+1,z,h=>WW ps a b k z (UK h)
theorem Kw:∀ f ps m i j z,z∈Wd f ps m i j->z∈ps
 | 0,_,_,_,_,_,h=>h
 | f+1,ps,m,i,j,z,h=>by
  rw [Wd] at h;split at h
  ·exact WW _ _ _ _ z h
  ·split at h
   ·exact WW _ _ _ _ z (Kw f _ _ _ _ z h)
   ·exact WW _ _ _ _ z (Kw f _ _ _ _ z h)
theorem Np:∀ c k ps,(upN c k ps).length=ps.length
 | 0,_,_=>rfl
 | c+1,k,ps=>by rw [upN,Np c,RP]
theorem Rb:∀ c k ps,(Kv c k ps).length=ps.length
 | 0,_,_=>rfl
 | c+1,k,ps=>by rw [Kv,Rb c,RP]
theorem J3:∀ f a m b ps,(VI f a m b ps).length=ps.length
 | 0,_,_,_,_=>rfl
 | f+1,a,m,b,ps=>by
  rw [VI];split
  ·split
   ·exact Np _ _ _
   ·rfl
  ·split
   ·split
    ·exact Rb _ _ _
    ·rfl
   ·have h1:∀ (c:Prop) [Decidable c] (x y:List PI),x.length=ps.length->y.length=ps.length->(if c then x else y).length=ps.length:=fun c _ x y hx hy=>by split <;> assumption
    refine h1 _ _ _ ?_ ?_
    ·rw [J3 f];refine h1 _ _ _ ?_ ?_
     ·rw [J3 f];exact h1 _ _ _ (Jq _ _ _ _ _) rfl
     ·exact h1 _ _ _ (Jq _ _ _ _ _) rfl
    ·refine h1 _ _ _ ?_ ?_
     ·rw [J3 f];exact h1 _ _ _ (Jq _ _ _ _ _) rfl
     ·exact h1 _ _ _ (Jq _ _ _ _ _) rfl
theorem Wv:∀ f a m b ps z,z∈VI f a m b ps->z∈ps
 | 0,_,_,_,_,_,h=>h
 | f+1,a,m,b,ps,z,h=>by
  rw [VI] at h;split at h
  ·split at h
   ·exact E1 _ _ _ _ h
   ·exact h
  ·split at h
   ·split at h
    ·exact H4 _ _ _ _ h
    ·exact h
   ·have h1:∀ (c:Prop) [Decidable c] (x y:List PI),z∈(if c then x else y)->(z∈x->z∈ps)->(z∈y->z∈ps)->z∈ps:=fun c _ x y hz hx hy=>by
     split at hz
     ·exact hx hz
     ·exact hy hz
    refine h1 _ _ _ h (fun h=>h1 _ _ _ (Wv f _ _ _ _ z h) (fun h=>h1 _ _ _ (Wv f _ _ _ _ z h) (fun h=>Kw _ _ _ _ _ z h) fun h=>h) (fun h=>h1 _ _ _ h (fun h=>Kw _ _ _ _ _ z h) fun h=>h))
     (fun h=>h1 _ _ _ h (fun h=>h1 _ _ _ (Wv f _ _ _ _ z h) (fun h=>Kw _ _ _ _ _ z h) fun h=>h) (fun h=>h1 _ _ _ h (fun h=>Kw _ _ _ _ _ z h) fun h=>h))
end
section
open Go.RowKit
theorem Nq {F:Nat->Prop} {g N cap:Nat} (hcap:N<=cap) (hm:N<=1000000000) (hF:¬ F g):∀ (fu:Nat) {w:World} {a m b:Nat} {ps:List PI},b-a<=fu->Arr w g ps->ps.length=N->a<m->m<b->b<=N->(∀ p∈ps,POk F w p) ->
  Calls prog 482 #[.slice (some ⟨g,0,none⟩) N cap,.int .i64 (a:Int),.int .i64 (m:Int),.int .i64 (b:Int),We] w fun e w'=>e = .returned (.tuple #[])/\Arr w' g (VI fu a m b ps)/\Chg (fun k=>k=g) w w':=by
 intro fu
 induction fu with
 | zero=>intro w a m b ps h1 _ _ h2 h3; omega
 | succ fu ih =>
  intro w a m b ps hfu h hN AA hmb hb hp;rw [VI];by_cases e1:a+1=m
  ·rw [if_pos e1];obtain ⟨x0,hx0⟩:∃ x,ps[a]? = some x:=⟨_,List.getElem?_eq_getElem (by omega)⟩
   rw [hx0];exact Zby h hN hcap e1 hmb hb hm hp hF hx0
  rw [if_neg e1];by_cases e2:m+1=b
  ·rw [if_pos e2];obtain ⟨x0,hx0⟩:∃ x,ps[m]? = some x:=⟨_,List.getElem?_eq_getElem (by omega)⟩
   rw [hx0];exact Zbz h hN hcap (by omega) e2 hb hm hp hF hx0
  rw [if_neg e2];simp only;obtain ⟨mid,hmid⟩:∃ x,(a+b) / 2=x:=⟨_,rfl⟩
  rw [hmid];have b1:a<mid:=by omega
  have b2:mid<b:=by omega
  obtain ⟨n,hn⟩:∃ x,mid+m=x:=⟨_,rfl⟩
  rw [hn];obtain ⟨lo,hlo⟩:∃ x,(if mid<m then n-b else a)=x:=⟨_,rfl⟩
  obtain ⟨hi,hhi⟩:∃ x,(if mid<m then mid else m)=x:=⟨_,rfl⟩
  rw [hlo,hhi];obtain ⟨st,kW⟩:∃ x,bs3 ps (n-1) (hi-lo) lo hi=x:=⟨_,rfl⟩
  rw [kW];obtain ⟨en,hen⟩:∃ x,n-st=x:=⟨_,rfl⟩
  rw [hen];obtain ⟨p1,hp1⟩:∃ x,(if st<m/\m<en then Wd (m-st+(en-m)) ps m (m-st) (en-m) else ps)=x:=⟨_,rfl⟩
  rw [hp1];obtain ⟨p2,hp2⟩:∃ x,(if a<st/\st<mid then VI fu a st mid p1 else p1)=x:=⟨_,rfl⟩
  rw [hp2];obtain ⟨p3,hp3⟩:∃ x,(if mid<en/\en<b then VI fu mid en b p2 else p2)=x:=⟨_,rfl⟩
  rw [hp3]
  have hlh:lo<=hi:=by
   subst hlo; subst hhi
   split <;> omega
  have hidx:∀ c,lo<=c->c<hi->n-1-c<N/\c<N/\c<n:=by
   intro c h1 h2;subst hlo; subst hhi
   split at h1 <;> split at h2 <;> omega
  have hl1:p1.length=N:=by
   subst hp1;split
   ·rw [Jq,hN]
   ·exact hN
  have hl2:p2.length=N:=by
   subst hp2;split
   ·rw [J3,hl1]
   ·exact hl1
  have hm1:∀ z∈p1,z∈ps:=by
   subst hp1;split
   ·exact fun z h=>Kw _ _ _ _ _ z h
   ·exact fun z h=>h
  have hm2:∀ z∈p2,z∈ps:=by
   subst hp2;split
   ·exact fun z h=>hm1 z (Wv _ _ _ _ _ z h)
   ·exact hm1
  have aa2:lo<=m/\hi<=m/\hi<=mid/\a<=lo:=by
   subst hlo; subst hhi
   split <;> omega
  have hr1:∀ W,Arr W g ps->st<m->m<en->en<=N->Calls prog 550 #[.slice (some ⟨g,0,none⟩) N cap,.int .i64 (st:Int),.int .i64 (m:Int),.int .i64 (en:Int),We] W fun e w'=>e = .returned (.tuple #[])/\Arr w' g p1/\Chg (fun k=>k=g) W w':=fun W hA h1 h2 h3=>by
   have:=Fx (f:=We) hA hN hcap h1 h2 h3 hm;rw [if_pos ⟨h1,h2⟩] at hp1
   rwa [hp1] at this
  have hr2:∀ W,Arr W g p1->Chg (fun k=>k=g) w W->a<st->st<mid->Calls prog 482 #[.slice (some ⟨g,0,none⟩) N cap,.int .i64 (a:Int),.int .i64 (st:Int),.int .i64 (mid:Int),We] W fun e w'=>e = .returned (.tuple #[])/\Arr w' g p2/\Chg (fun k=>k=g) W w':=fun W hA hc h1 h2=>by
   have:=ih (w:=W) (a:=a) (m:=st) (b:=mid) (by omega) hA hl1 h1 h2 (by omega) fun p hp'=>(hp p (hm1 p hp')).chg hc fun b hb _ e=>hF (e▸hb);rw [if_pos ⟨h1,h2⟩] at hp2
   rwa [hp2] at this
  have hr3:∀ W,Arr W g p2->Chg (fun k=>k=g) w W->mid<en->en<b->Calls prog 482 #[.slice (some ⟨g,0,none⟩) N cap,.int .i64 (mid:Int),.int .i64 (en:Int),.int .i64 (b:Int),We] W fun e w'=>e = .returned (.tuple #[])/\Arr w' g p3/\Chg (fun k=>k=g) W w':=fun W hA hc h1 h2=>by
   have:=ih (w:=W) (a:=mid) (m:=en) (b:=b) (by omega) hA hl2 h1 h2 hb fun p hp'=>(hp p (hm2 p hp')).chg hc fun b hb _ e=>hF (e▸hb);rw [if_pos ⟨h1,h2⟩] at hp3
   rwa [hp3] at this
  have q1:¬ (st<m/\m<en)->p1=ps:=fun h=>by rw [if_neg h] at hp1; exact hp1.symm
  have q2:¬ (a<st/\st<mid)->p2=p1:=fun h=>by rw [if_neg h] at hp2; exact hp2.symm
  have q3:¬ (mid<en/\en<b)->p3=p2:=fun h=>by rw [if_neg h] at hp3; exact hp3.symm
  have R1:=Hd hr1;have R2:=Hd hr2;have R3:=Hd hr3;have Q1:=Hd q1;have Q2:=Hd q2;have Q3:=Hd q3;have HN:=Hd hN;have HP:=Hd hp;have H:=Hd h;have HI:=Hd hidx;have HS:=Hd kW;have HM:=Hd hm;clear hr1 hr2 hr3 q1 q2 q3 hN hp h hidx kW hp1 hp2 hp3 hl1 hl2 hm1 hm2 ih;have HF:=Hd hF;obtain ⟨ma,aJ⟩:∃ x,m-a=x:=⟨_,rfl⟩
  obtain ⟨bm,hbm⟩:∃ x,b-m=x:=⟨_,rfl⟩
  have w1:IntKind.i64.wrap ((m:Int)-(a:Int))=(ma:Int):=by rw [show (m:Int)-(a:Int)=(ma:Int) by omega]; exact IntWalk.i64_in _ (by omega)
  have w2:IntKind.i64.wrap ((b:Int)-(m:Int))=(bm:Int):=by rw [show (b:Int)-(m:Int)=(bm:Int) by omega]; exact IntWalk.i64_in _ (by omega)
  have z1:((ma:Int)==1)=false:=beq_eq_false_iff_ne.2 (by omega);have z2:((bm:Int)==1)=false:=beq_eq_false_iff_ne.2 (by omega);have z3:¬ ma=1:=by omega
  have z4:¬ bm=1:=by omega
  obtain ⟨ab,hab⟩:∃ x,a+b=x:=⟨_,rfl⟩
  have w3:IntKind.i64.wrap ((a:Int)+(b:Int))=(ab:Int):=by rw [show (a:Int)+(b:Int)=(ab:Int) by omega]; exact IntWalk.i64_in _ (by omega)
  have v2:IntKind.u64.wrap (ab:Int)=(ab:Int):=by rw [IntKind.wrap_u64]; omega
  have v4:IntKind.u64.wrap (mid:Int)=(mid:Int):=by rw [IntKind.wrap_u64]; omega
  have v5:IntKind.i64.wrap (mid:Int)=(mid:Int):=IntWalk.i64_in _ (by omega);have v3:(ab:Int) / 2=(mid:Int):=by omega
  have v6:ab / 2=mid:=by omega
  have w4:IntKind.i64.wrap ((mid:Int)+(m:Int))=(n:Int):=by rw [show (mid:Int)+(m:Int)=(n:Int) by omega]; exact IntWalk.i64_in _ (by omega)
  obtain ⟨n1,hn1⟩:∃ x,n-1=x:=⟨_,rfl⟩
  have w5:IntKind.i64.wrap ((n:Int)-1)=(n1:Int):=by rw [show (n:Int)-1=(n1:Int) by omega]; exact IntWalk.i64_in _ (by omega)
  have xm:mid<m->lo=n-b->IntKind.i64.wrap ((n:Int)-(b:Int))=(lo:Int):=fun h1 h2=>by rw [show (n:Int)-(b:Int)=(lo:Int) by omega]; exact IntWalk.i64_in _ (by omega)
  rw [hn1] at HS HI;clear hm hF;unfold We;by_cases hmm:mid<m
  ·have je:lo=n-b:=by rw [<- hlo,if_pos hmm]
   have kX:hi=mid:=by rw [<- hhi,if_pos hmm]
   have w6:=xm hmm je;have hlb:n<=lo+b:=by omega
   have aa3:lo+b<=n:=by omega
   clear xm;subst kX;clear hlo hhi je
   go_enter func482,ntmps482
   go_wp2_with fail
   go_loopw [20,21] (fun x y wr=>∃ (I J:Nat),lo<=I/\I<=J/\J<=hi/\x = .int .i64 I/\y = .int .i64 J/\Hid (Arr wr g ps)/\Hid (∃ f,J-I<=f/\st=bs3 ps n1 f I J)/\Chg (fun k=>k=g) w wr) (fun x y _=>(intOf y).toNat-(intOf x).toNat)
   case atStart=>exact ⟨lo,hi,Nat.le_refl _,hlh,Nat.le_refl _,rfl,rfl,H,Hd ⟨hi-lo,Nat.le_refl _,HS.out.symm⟩,Chg.refl _ _⟩
   case round =>
    obtain ⟨I,J,hI1,hI2,hJ,rfl,rfl,HA,HR,hcw⟩:=hrel;have hM:=HM.out;by_cases hlt:I<J
    ·obtain ⟨f0,hf0,hR⟩:=HR.out;obtain ⟨f,rfl⟩:∃ f,f0=f+1:=⟨f0-1,by omega⟩
     obtain ⟨h,hh⟩:∃ h,(I+J) / 2=h:=⟨_,rfl⟩
     have k1:I<=h:=by omega
     have k2:h<J:=by omega
     obtain ⟨j1,j2,j3⟩:=HI.out h (by omega) (by omega);obtain ⟨e,he⟩:∃ x,n1-h=x:=⟨_,rfl⟩
     rw [he] at j1;obtain ⟨⟨yv,yx⟩,hy⟩:∃ p,ps[h]? = some p:=⟨_,List.getElem?_eq_getElem (by rw [HN.out]; omega)⟩
     obtain ⟨⟨xv,xx⟩,hx⟩:∃ p,ps[e]? = some p:=⟨_,List.getElem?_eq_getElem (by rw [HN.out]; omega)⟩
     rw [bs3,if_pos hlt,hh,he,hy,hx] at hR;simp only at hR;have ha:Arr wr.drew g ps:=HA.out.Zf ((Chg.refl _ wr).drew);obtain ⟨d0,d1,e0,xn⟩:=ha.cells hy;obtain ⟨d2,d3,e2',e3'⟩:=ha.cells hx;have hcd:=hcw.drew;have hpy:POk F wr.drew (yv,yx):=(HP.out _ (List.mem_of_getElem? hy)).chg hcd fun k hk _ e=>HF.out (e▸hk);have hpx:POk F wr.drew (xv,xx):=(HP.out _ (List.mem_of_getElem? hx)).chg hcd fun k hk _ e=>HF.out (e▸hk);obtain ⟨cv,hcv⟩:∃ c,Xu (xv,xx) (yv,yx)=c:=⟨_,rfl⟩
     rw [hcv] at hR;have HR2:=Hd hR;simp only at d0 d1 d2 d3;have x1:IntKind.i64.wrap ((I:Int)+(J:Int))=((I+J:Nat):Int):=by rw [show (I:Int)+(J:Int)=((I+J:Nat):Int) by omega]; exact IntWalk.i64_in _ (by omega)
     obtain ⟨ij,hij⟩:∃ m,I+J=m:=⟨_,rfl⟩
     rw [hij] at x1 hh;have x2:IntKind.u64.wrap (ij:Int)=(ij:Int):=by rw [IntKind.wrap_u64]; omega
     have x4:IntKind.u64.wrap (h:Int)=(h:Int):=by rw [IntKind.wrap_u64]; omega
     have x5:IntKind.i64.wrap (h:Int)=(h:Int):=IntWalk.i64_in _ (by omega);have x3:(ij:Int) / 2=(h:Int):=by omega
     have x6:ij / 2=h:=hh;have x7:IntKind.i64.wrap ((n1:Int)-(h:Int))=(e:Int):=by rw [show (n1:Int)-(h:Int)=(e:Int) by omega]; exact IntWalk.i64_in _ (by omega)
     clear hR hy hx ha hij hh he e0 xn e2' e3' R1 R2 R3 Q1 Q2 Q3 w1 w2 w3 v2 v4 v5 v3 v6 w4 w5;by_cases hneg:cv<0
     ·have HR3:=Hd (HR2.out.trans (if_pos hneg));clear HR2
      go_wp2_with fail
      refine Zh [6,10] (S:=fun wx=>wx.cell? ⟨g,e*2,none⟩=some xv/\wx.cell? ⟨g,e*2+1,none⟩=some (.complex .f64 (fl xx.a) (fl xx.b))/\wx.cell? ⟨g,h*2,none⟩=some yv/\wx.cell? ⟨g,h*2+1,none⟩=some (.complex .f64 (fl yx.a) (fl yx.b))) (by kernel_rfl) ⟨d2,d3,d0,d1⟩ (fun hHeld => ?_);refine tkP 0 (some 158) ?_;refine tkP 1 (some 159) ?_;refine tkP 2 (some 160) ?_;refine tkP 3 (some 161) ?_;refine tkP 4 (some 162) ?_;refine tkP 5 (some 163) ?_;refine tkG 6 (some 164) ?_;refine tkP 7 (some 165) ?_;refine tkP 8 (some 166) ?_;refine tkP 9 (some 167) ?_;refine tkG 10 (some 168) ?_;refine Zg (rs:=[11]) (by kernel_rfl) (by simp) ?_;refine Zc.ZN rfl (by kernel_rfl) (fun K hK => ?_) Zc.nil;go_simp;refine (Jk hpx hpy).mono ?_;rintro _ wA ⟨rfl,hA⟩;rw [hcv]
      go_wp2_with fail
      refine hK.out _ _ ?_;clear hK K
      try simp only [Act.put,List.setIfInBounds_toArray,List.set_cons_zero,List.set_cons_succ]
      refine tkP 12 (some 170) ?_;refine tkP 13 (some 171) ?_;refine Zr (by kernel_rfl) ?_ _;have bu:=Hd ((HA.out.Zf ((Chg.refl _ wr).drew)).Zf hA);have hcA:Chg (fun k=>k=g) w wA:=hcd.trans hA fun _ _ h=>h.elim;clear d0 d1 d2 d3 hpx hpy x1 x2 x3 x4
      go_wp2_with fail
      go_roundw
      case rel=>exact ⟨I,h,by omega,by omega,by omega,rfl,rfl,bu,Hd ⟨f,by omega,HR3.out⟩,hcA⟩
      case measure=>simp [intOf]; omega
      all_goals (exfalso; rename_i hx; simp at hx; omega)
     ·have HR3:=Hd (HR2.out.trans (if_neg hneg));have x8:IntKind.i64.wrap ((h:Int)+1)=((h+1:Nat):Int):=by rw [show (h:Int)+1=((h+1:Nat):Int) by omega]; exact IntWalk.i64_in _ (by omega)
      clear HR2
      go_wp2_with fail
      refine Zh [6,10] (S:=fun wx=>wx.cell? ⟨g,e*2,none⟩=some xv/\wx.cell? ⟨g,e*2+1,none⟩=some (.complex .f64 (fl xx.a) (fl xx.b))/\wx.cell? ⟨g,h*2,none⟩=some yv/\wx.cell? ⟨g,h*2+1,none⟩=some (.complex .f64 (fl yx.a) (fl yx.b))) (by kernel_rfl) ⟨d2,d3,d0,d1⟩ (fun hHeld => ?_);refine tkP 0 (some 158) ?_;refine tkP 1 (some 159) ?_;refine tkP 2 (some 160) ?_;refine tkP 3 (some 161) ?_;refine tkP 4 (some 162) ?_;refine tkP 5 (some 163) ?_;refine tkG 6 (some 164) ?_;refine tkP 7 (some 165) ?_;refine tkP 8 (some 166) ?_;refine tkP 9 (some 167) ?_;refine tkG 10 (some 168) ?_;refine Zg (rs:=[11]) (by kernel_rfl) (by simp) ?_;refine Zc.ZN rfl (by kernel_rfl) (fun K hK => ?_) Zc.nil;go_simp;refine (Jk hpx hpy).mono ?_;rintro _ wA ⟨rfl,hA⟩;rw [hcv]
      go_wp2_with fail
      refine hK.out _ _ ?_;clear hK K
      try simp only [Act.put,List.setIfInBounds_toArray,List.set_cons_zero,List.set_cons_succ]
      refine tkP 12 (some 170) ?_;refine tkP 13 (some 171) ?_;refine Zr (by kernel_rfl) ?_ _;have bu:=Hd ((HA.out.Zf ((Chg.refl _ wr).drew)).Zf hA);have hcA:Chg (fun k=>k=g) w wA:=hcd.trans hA fun _ _ h=>h.elim;clear d0 d1 d2 d3 hpx hpy x1 x2 x3 x4
      go_wp2_with fail
      go_roundw
      case rel=>exact ⟨h+1,J,by omega,by omega,by omega,by go_num,rfl,bu,Hd ⟨f,by omega,HR3.out⟩,hcA⟩
      case measure=>simp [intOf]; omega
      all_goals (exfalso; rename_i hx; simp at hx; omega)
    ·have dI:I=J:=by omega
     subst dI
     have hres:st=I:=by
      obtain ⟨f,hf,hR⟩:=HR.out;rw [hR];cases f with
      | zero=>rfl
      | succ f=>rw [bs3,if_neg (by omega)]
     subst hres;have w7:IntKind.i64.wrap ((n:Int)-(st:Int))=(en:Int):=by rw [show (n:Int)-(st:Int)=(en:Int) by omega]; exact IntWalk.i64_in _ (by omega)
     have hM2:=HM.out;clear HR w1 w2 w3 v2 v4 v5 v3 v6 w4 w5 HI HS;have g1:st<m:=by omega
     by_cases g2:m<en
     ·have g3:en<=N:=by omega
      go_wp2_with fail
      refine (R1.out _ HA.out g1 g2 g3).mono ?_;rintro _ wX ⟨rfl,pM,pO⟩;have dW:=Hd pM;have aF:=hcw.trans pO fun _ _ h=>h;clear pM pO;by_cases c6:a<st
      ·by_cases c7:st<hi
       ·go_wp2_with fail
        refine (R2.out _ dW.out aF c6 c7).mono ?_;rintro _ wY ⟨rfl,dh,iw⟩;have aB:=Hd dh;have aG:=aF.trans iw fun _ _ h=>h;clear dh iw;by_cases c4:hi<en
        ·by_cases c5:en<b
         ·go_wp2_with fail
          refine (R3.out _ aB.out aG c4 c5).mono ?_;rintro _ wZ ⟨rfl,aK,bz⟩;have ai:=Hd aK;clear aK
          go_wp2_with fail
          go_end0
          exact ⟨rfl,ai.out,aG.trans bz fun _ _ h=>h⟩
         ·have ai:Hid (Arr wY g p3):=Hd ((Q3.out fun h=>c5 h.2)▸aB.out)
          go_wp2_with fail
          go_end0
          exact ⟨rfl,ai.out,aG⟩
        ·have ai:Hid (Arr wY g p3):=Hd ((Q3.out fun h=>c4 h.1)▸aB.out)
         go_wp2_with fail
         go_end0
         exact ⟨rfl,ai.out,aG⟩
       ·have aB:Hid (Arr wX g p2):=Hd ((Q2.out fun h=>c7 h.2)▸dW.out);by_cases c4:hi<en
        ·by_cases c5:en<b
         ·go_wp2_with fail
          refine (R3.out _ aB.out aF c4 c5).mono ?_;rintro _ wZ ⟨rfl,aK,bz⟩;have ai:=Hd aK;clear aK
          go_wp2_with fail
          go_end0
          exact ⟨rfl,ai.out,aF.trans bz fun _ _ h=>h⟩
         ·have ai:Hid (Arr wX g p3):=Hd ((Q3.out fun h=>c5 h.2)▸aB.out)
          go_wp2_with fail
          go_end0
          exact ⟨rfl,ai.out,aF⟩
        ·have ai:Hid (Arr wX g p3):=Hd ((Q3.out fun h=>c4 h.1)▸aB.out)
         go_wp2_with fail
         go_end0
         exact ⟨rfl,ai.out,aF⟩
      ·have aB:Hid (Arr wX g p2):=Hd ((Q2.out fun h=>c6 h.1)▸dW.out);by_cases c4:hi<en
       ·by_cases c5:en<b
        ·go_wp2_with fail
         refine (R3.out _ aB.out aF c4 c5).mono ?_;rintro _ wZ ⟨rfl,aK,bz⟩;have ai:=Hd aK;clear aK
         go_wp2_with fail
         go_end0
         exact ⟨rfl,ai.out,aF.trans bz fun _ _ h=>h⟩
        ·have ai:Hid (Arr wX g p3):=Hd ((Q3.out fun h=>c5 h.2)▸aB.out)
         go_wp2_with fail
         go_end0
         exact ⟨rfl,ai.out,aF⟩
       ·have ai:Hid (Arr wX g p3):=Hd ((Q3.out fun h=>c4 h.1)▸aB.out)
        go_wp2_with fail
        go_end0
        exact ⟨rfl,ai.out,aF⟩
     ·have dW:Hid (Arr wr g p1):=Hd ((Q1.out fun h=>g2 h.2)▸HA.out);by_cases c6:a<st
      ·by_cases c7:st<hi
       ·go_wp2_with fail
        refine (R2.out _ dW.out hcw c6 c7).mono ?_;rintro _ wY ⟨rfl,dh,iw⟩;have aB:=Hd dh;have aG:=hcw.trans iw fun _ _ h=>h;clear dh iw;by_cases c4:hi<en
        ·by_cases c5:en<b
         ·go_wp2_with fail
          refine (R3.out _ aB.out aG c4 c5).mono ?_;rintro _ wZ ⟨rfl,aK,bz⟩;have ai:=Hd aK;clear aK
          go_wp2_with fail
          go_end0
          exact ⟨rfl,ai.out,aG.trans bz fun _ _ h=>h⟩
         ·have ai:Hid (Arr wY g p3):=Hd ((Q3.out fun h=>c5 h.2)▸aB.out)
          go_wp2_with fail
          go_end0
          exact ⟨rfl,ai.out,aG⟩
        ·have ai:Hid (Arr wY g p3):=Hd ((Q3.out fun h=>c4 h.1)▸aB.out)
         go_wp2_with fail
         go_end0
         exact ⟨rfl,ai.out,aG⟩
       ·have aB:Hid (Arr wr g p2):=Hd ((Q2.out fun h=>c7 h.2)▸dW.out);by_cases c4:hi<en
        ·by_cases c5:en<b
         ·go_wp2_with fail
          refine (R3.out _ aB.out hcw c4 c5).mono ?_;rintro _ wZ ⟨rfl,aK,bz⟩;have ai:=Hd aK;clear aK
          go_wp2_with fail
          go_end0
          exact ⟨rfl,ai.out,hcw.trans bz fun _ _ h=>h⟩
         ·have ai:Hid (Arr wr g p3):=Hd ((Q3.out fun h=>c5 h.2)▸aB.out)
          go_wp2_with fail
          go_end0
          exact ⟨rfl,ai.out,hcw⟩
        ·have ai:Hid (Arr wr g p3):=Hd ((Q3.out fun h=>c4 h.1)▸aB.out)
         go_wp2_with fail
         go_end0
         exact ⟨rfl,ai.out,hcw⟩
      ·have aB:Hid (Arr wr g p2):=Hd ((Q2.out fun h=>c6 h.1)▸dW.out);by_cases c4:hi<en
       ·by_cases c5:en<b
        ·go_wp2_with fail
         refine (R3.out _ aB.out hcw c4 c5).mono ?_;rintro _ wZ ⟨rfl,aK,bz⟩;have ai:=Hd aK;clear aK
         go_wp2_with fail
         go_end0
         exact ⟨rfl,ai.out,hcw.trans bz fun _ _ h=>h⟩
        ·have ai:Hid (Arr wr g p3):=Hd ((Q3.out fun h=>c5 h.2)▸aB.out)
         go_wp2_with fail
         go_end0
         exact ⟨rfl,ai.out,hcw⟩
       ·have ai:Hid (Arr wr g p3):=Hd ((Q3.out fun h=>c4 h.1)▸aB.out)
        go_wp2_with fail
        go_end0
        exact ⟨rfl,ai.out,hcw⟩
  ·have je:lo=a:=by rw [<- hlo,if_neg hmm]
   have kX:hi=m:=by rw [<- hhi,if_neg hmm]
   subst kX;subst je;clear hlo hhi xm
   go_enter func482,ntmps482
   go_wp2_with fail
   go_loopw [20,21] (fun x y wr=>∃ (I J:Nat),lo<=I/\I<=J/\J<=hi/\x = .int .i64 I/\y = .int .i64 J/\Hid (Arr wr g ps)/\Hid (∃ f,J-I<=f/\st=bs3 ps n1 f I J)/\Chg (fun k=>k=g) w wr) (fun x y _=>(intOf y).toNat-(intOf x).toNat)
   case atStart=>exact ⟨lo,hi,Nat.le_refl _,hlh,Nat.le_refl _,rfl,rfl,H,Hd ⟨hi-lo,Nat.le_refl _,HS.out.symm⟩,Chg.refl _ _⟩
   case round =>
    obtain ⟨I,J,hI1,hI2,hJ,rfl,rfl,HA,HR,hcw⟩:=hrel;have hM:=HM.out;by_cases hlt:I<J
    ·obtain ⟨f0,hf0,hR⟩:=HR.out;obtain ⟨f,rfl⟩:∃ f,f0=f+1:=⟨f0-1,by omega⟩
     obtain ⟨h,hh⟩:∃ h,(I+J) / 2=h:=⟨_,rfl⟩
     have k1:I<=h:=by omega
     have k2:h<J:=by omega
     obtain ⟨j1,j2,j3⟩:=HI.out h (by omega) (by omega);obtain ⟨e,he⟩:∃ x,n1-h=x:=⟨_,rfl⟩
     rw [he] at j1;obtain ⟨⟨yv,yx⟩,hy⟩:∃ p,ps[h]? = some p:=⟨_,List.getElem?_eq_getElem (by rw [HN.out]; omega)⟩
     obtain ⟨⟨xv,xx⟩,hx⟩:∃ p,ps[e]? = some p:=⟨_,List.getElem?_eq_getElem (by rw [HN.out]; omega)⟩
     rw [bs3,if_pos hlt,hh,he,hy,hx] at hR;simp only at hR;have ha:Arr wr.drew g ps:=HA.out.Zf ((Chg.refl _ wr).drew);obtain ⟨d0,d1,e0,xn⟩:=ha.cells hy;obtain ⟨d2,d3,e2',e3'⟩:=ha.cells hx;have hcd:=hcw.drew;have hpy:POk F wr.drew (yv,yx):=(HP.out _ (List.mem_of_getElem? hy)).chg hcd fun k hk _ e=>HF.out (e▸hk);have hpx:POk F wr.drew (xv,xx):=(HP.out _ (List.mem_of_getElem? hx)).chg hcd fun k hk _ e=>HF.out (e▸hk);obtain ⟨cv,hcv⟩:∃ c,Xu (xv,xx) (yv,yx)=c:=⟨_,rfl⟩
     rw [hcv] at hR;have HR2:=Hd hR;simp only at d0 d1 d2 d3;have x1:IntKind.i64.wrap ((I:Int)+(J:Int))=((I+J:Nat):Int):=by rw [show (I:Int)+(J:Int)=((I+J:Nat):Int) by omega]; exact IntWalk.i64_in _ (by omega)
     obtain ⟨ij,hij⟩:∃ m,I+J=m:=⟨_,rfl⟩
     rw [hij] at x1 hh;have x2:IntKind.u64.wrap (ij:Int)=(ij:Int):=by rw [IntKind.wrap_u64]; omega
     have x4:IntKind.u64.wrap (h:Int)=(h:Int):=by rw [IntKind.wrap_u64]; omega
     have x5:IntKind.i64.wrap (h:Int)=(h:Int):=IntWalk.i64_in _ (by omega);have x3:(ij:Int) / 2=(h:Int):=by omega
     have x6:ij / 2=h:=hh;have x7:IntKind.i64.wrap ((n1:Int)-(h:Int))=(e:Int):=by rw [show (n1:Int)-(h:Int)=(e:Int) by omega]; exact IntWalk.i64_in _ (by omega)
     clear hR hy hx ha hij hh he e0 xn e2' e3' R1 R2 R3 Q1 Q2 Q3 w1 w2 w3 v2 v4 v5 v3 v6 w4 w5;by_cases hneg:cv<0
     ·have HR3:=Hd (HR2.out.trans (if_pos hneg));clear HR2
      go_wp2_with fail
      refine Zh [6,10] (S:=fun wx=>wx.cell? ⟨g,e*2,none⟩=some xv/\wx.cell? ⟨g,e*2+1,none⟩=some (.complex .f64 (fl xx.a) (fl xx.b))/\wx.cell? ⟨g,h*2,none⟩=some yv/\wx.cell? ⟨g,h*2+1,none⟩=some (.complex .f64 (fl yx.a) (fl yx.b))) (by kernel_rfl) ⟨d2,d3,d0,d1⟩ (fun hHeld => ?_);refine tkP 0 (some 158) ?_;refine tkP 1 (some 159) ?_;refine tkP 2 (some 160) ?_;refine tkP 3 (some 161) ?_;refine tkP 4 (some 162) ?_;refine tkP 5 (some 163) ?_;refine tkG 6 (some 164) ?_;refine tkP 7 (some 165) ?_;refine tkP 8 (some 166) ?_;refine tkP 9 (some 167) ?_;refine tkG 10 (some 168) ?_;refine Zg (rs:=[11]) (by kernel_rfl) (by simp) ?_;refine Zc.ZN rfl (by kernel_rfl) (fun K hK => ?_) Zc.nil;go_simp;refine (Jk hpx hpy).mono ?_;rintro _ wA ⟨rfl,hA⟩;rw [hcv]
      go_wp2_with fail
      refine hK.out _ _ ?_;clear hK K
      try simp only [Act.put,List.setIfInBounds_toArray,List.set_cons_zero,List.set_cons_succ]
      refine tkP 12 (some 170) ?_;refine tkP 13 (some 171) ?_;refine Zr (by kernel_rfl) ?_ _;have bu:=Hd ((HA.out.Zf ((Chg.refl _ wr).drew)).Zf hA);have hcA:Chg (fun k=>k=g) w wA:=hcd.trans hA fun _ _ h=>h.elim;clear d0 d1 d2 d3 hpx hpy x1 x2 x3 x4
      go_wp2_with fail
      go_roundw
      case rel=>exact ⟨I,h,by omega,by omega,by omega,rfl,rfl,bu,Hd ⟨f,by omega,HR3.out⟩,hcA⟩
      case measure=>simp [intOf]; omega
      all_goals (exfalso; rename_i hx; simp at hx; omega)
     ·have HR3:=Hd (HR2.out.trans (if_neg hneg));have x8:IntKind.i64.wrap ((h:Int)+1)=((h+1:Nat):Int):=by rw [show (h:Int)+1=((h+1:Nat):Int) by omega]; exact IntWalk.i64_in _ (by omega)
      clear HR2
      go_wp2_with fail
      refine Zh [6,10] (S:=fun wx=>wx.cell? ⟨g,e*2,none⟩=some xv/\wx.cell? ⟨g,e*2+1,none⟩=some (.complex .f64 (fl xx.a) (fl xx.b))/\wx.cell? ⟨g,h*2,none⟩=some yv/\wx.cell? ⟨g,h*2+1,none⟩=some (.complex .f64 (fl yx.a) (fl yx.b))) (by kernel_rfl) ⟨d2,d3,d0,d1⟩ (fun hHeld => ?_);refine tkP 0 (some 158) ?_;refine tkP 1 (some 159) ?_;refine tkP 2 (some 160) ?_;refine tkP 3 (some 161) ?_;refine tkP 4 (some 162) ?_;refine tkP 5 (some 163) ?_;refine tkG 6 (some 164) ?_;refine tkP 7 (some 165) ?_;refine tkP 8 (some 166) ?_;refine tkP 9 (some 167) ?_;refine tkG 10 (some 168) ?_;refine Zg (rs:=[11]) (by kernel_rfl) (by simp) ?_;refine Zc.ZN rfl (by kernel_rfl) (fun K hK => ?_) Zc.nil;go_simp;refine (Jk hpx hpy).mono ?_;rintro _ wA ⟨rfl,hA⟩;rw [hcv]
      go_wp2_with fail
      refine hK.out _ _ ?_;clear hK K
      try simp only [Act.put,List.setIfInBounds_toArray,List.set_cons_zero,List.set_cons_succ]
      refine tkP 12 (some 170) ?_;refine tkP 13 (some 171) ?_;refine Zr (by kernel_rfl) ?_ _;have bu:=Hd ((HA.out.Zf ((Chg.refl _ wr).drew)).Zf hA);have hcA:Chg (fun k=>k=g) w wA:=hcd.trans hA fun _ _ h=>h.elim;clear d0 d1 d2 d3 hpx hpy x1 x2 x3 x4
      go_wp2_with fail
      go_roundw
      case rel=>exact ⟨h+1,J,by omega,by omega,by omega,by go_num,rfl,bu,Hd ⟨f,by omega,HR3.out⟩,hcA⟩
      case measure=>simp [intOf]; omega
      all_goals (exfalso; rename_i hx; simp at hx; omega)
    ·have dI:I=J:=by omega
     subst dI
     have hres:st=I:=by
      obtain ⟨f,hf,hR⟩:=HR.out;rw [hR];cases f with
      | zero=>rfl
      | succ f=>rw [bs3,if_neg (by omega)]
     subst hres;have w7:IntKind.i64.wrap ((n:Int)-(st:Int))=(en:Int):=by rw [show (n:Int)-(st:Int)=(en:Int) by omega]; exact IntWalk.i64_in _ (by omega)
     have hM2:=HM.out;clear HR w1 w2 w3 v2 v4 v5 v3 v6 w4 w5 HI HS;by_cases g1:st<hi
     ·have g2:hi<en:=by omega
      have g3:en<=N:=by omega
      go_wp2_with fail
      refine (R1.out _ HA.out g1 g2 g3).mono ?_;rintro _ wX ⟨rfl,pM,pO⟩;have dW:=Hd pM;have aF:=hcw.trans pO fun _ _ h=>h;clear pM pO;by_cases c6:lo<st
      ·by_cases c7:st<mid
       ·go_wp2_with fail
        refine (R2.out _ dW.out aF c6 c7).mono ?_;rintro _ wY ⟨rfl,dh,iw⟩;have aB:=Hd dh;have aG:=aF.trans iw fun _ _ h=>h;clear dh iw;by_cases c4:mid<en
        ·by_cases c5:en<b
         ·go_wp2_with fail
          refine (R3.out _ aB.out aG c4 c5).mono ?_;rintro _ wZ ⟨rfl,aK,bz⟩;have ai:=Hd aK;clear aK
          go_wp2_with fail
          go_end0
          exact ⟨rfl,ai.out,aG.trans bz fun _ _ h=>h⟩
         ·have ai:Hid (Arr wY g p3):=Hd ((Q3.out fun h=>c5 h.2)▸aB.out)
          go_wp2_with fail
          go_end0
          exact ⟨rfl,ai.out,aG⟩
        ·have ai:Hid (Arr wY g p3):=Hd ((Q3.out fun h=>c4 h.1)▸aB.out)
         go_wp2_with fail
         go_end0
         exact ⟨rfl,ai.out,aG⟩
       ·have aB:Hid (Arr wX g p2):=Hd ((Q2.out fun h=>c7 h.2)▸dW.out);by_cases c4:mid<en
        ·by_cases c5:en<b
         ·go_wp2_with fail
          refine (R3.out _ aB.out aF c4 c5).mono ?_;rintro _ wZ ⟨rfl,aK,bz⟩;have ai:=Hd aK;clear aK
          go_wp2_with fail
          go_end0
          exact ⟨rfl,ai.out,aF.trans bz fun _ _ h=>h⟩
         ·have ai:Hid (Arr wX g p3):=Hd ((Q3.out fun h=>c5 h.2)▸aB.out)
          go_wp2_with fail
          go_end0
          exact ⟨rfl,ai.out,aF⟩
        ·have ai:Hid (Arr wX g p3):=Hd ((Q3.out fun h=>c4 h.1)▸aB.out)
         go_wp2_with fail
         go_end0
         exact ⟨rfl,ai.out,aF⟩
      ·have aB:Hid (Arr wX g p2):=Hd ((Q2.out fun h=>c6 h.1)▸dW.out);by_cases c4:mid<en
       ·by_cases c5:en<b
        ·go_wp2_with fail
         refine (R3.out _ aB.out aF c4 c5).mono ?_;rintro _ wZ ⟨rfl,aK,bz⟩;have ai:=Hd aK;clear aK
         go_wp2_with fail
         go_end0
         exact ⟨rfl,ai.out,aF.trans bz fun _ _ h=>h⟩
        ·have ai:Hid (Arr wX g p3):=Hd ((Q3.out fun h=>c5 h.2)▸aB.out)
         go_wp2_with fail
         go_end0
         exact ⟨rfl,ai.out,aF⟩
       ·have ai:Hid (Arr wX g p3):=Hd ((Q3.out fun h=>c4 h.1)▸aB.out)
        go_wp2_with fail
        go_end0
        exact ⟨rfl,ai.out,aF⟩
     ·have dW:Hid (Arr wr g p1):=Hd ((Q1.out fun h=>g1 h.1)▸HA.out);by_cases c6:lo<st
      ·by_cases c7:st<mid
       ·go_wp2_with fail
        refine (R2.out _ dW.out hcw c6 c7).mono ?_;rintro _ wY ⟨rfl,dh,iw⟩;have aB:=Hd dh;have aG:=hcw.trans iw fun _ _ h=>h;clear dh iw;by_cases c4:mid<en
        ·by_cases c5:en<b
         ·go_wp2_with fail
          refine (R3.out _ aB.out aG c4 c5).mono ?_;rintro _ wZ ⟨rfl,aK,bz⟩;have ai:=Hd aK;clear aK
          go_wp2_with fail
          go_end0
          exact ⟨rfl,ai.out,aG.trans bz fun _ _ h=>h⟩
         ·have ai:Hid (Arr wY g p3):=Hd ((Q3.out fun h=>c5 h.2)▸aB.out)
          go_wp2_with fail
          go_end0
          exact ⟨rfl,ai.out,aG⟩
        ·have ai:Hid (Arr wY g p3):=Hd ((Q3.out fun h=>c4 h.1)▸aB.out)
         go_wp2_with fail
         go_end0
         exact ⟨rfl,ai.out,aG⟩
       ·have aB:Hid (Arr wr g p2):=Hd ((Q2.out fun h=>c7 h.2)▸dW.out);by_cases c4:mid<en
        ·by_cases c5:en<b
         ·go_wp2_with fail
          refine (R3.out _ aB.out hcw c4 c5).mono ?_;rintro _ wZ ⟨rfl,aK,bz⟩;have ai:=Hd aK;clear aK
          go_wp2_with fail
          go_end0
          exact ⟨rfl,ai.out,hcw.trans bz fun _ _ h=>h⟩
         ·have ai:Hid (Arr wr g p3):=Hd ((Q3.out fun h=>c5 h.2)▸aB.out)
          go_wp2_with fail
          go_end0
          exact ⟨rfl,ai.out,hcw⟩
        ·have ai:Hid (Arr wr g p3):=Hd ((Q3.out fun h=>c4 h.1)▸aB.out)
         go_wp2_with fail
         go_end0
         exact ⟨rfl,ai.out,hcw⟩
      ·have aB:Hid (Arr wr g p2):=Hd ((Q2.out fun h=>c6 h.1)▸dW.out);by_cases c4:mid<en
       ·by_cases c5:en<b
        ·go_wp2_with fail
         refine (R3.out _ aB.out hcw c4 c5).mono ?_;rintro _ wZ ⟨rfl,aK,bz⟩;have ai:=Hd aK;clear aK
         go_wp2_with fail
         go_end0
         exact ⟨rfl,ai.out,hcw.trans bz fun _ _ h=>h⟩
        ·have ai:Hid (Arr wr g p3):=Hd ((Q3.out fun h=>c5 h.2)▸aB.out)
         go_wp2_with fail
         go_end0
         exact ⟨rfl,ai.out,hcw⟩
       ·have ai:Hid (Arr wr g p3):=Hd ((Q3.out fun h=>c4 h.1)▸aB.out)
        go_wp2_with fail
        go_end0
        exact ⟨rfl,ai.out,hcw⟩
end
section
theorem KQ {α : Type} (A:List α) (x : α) (B:List α) {i:Nat} (h:i=A.length):(A++x::B)[i]? = some x:=by
 subst h;rw [List.getElem?_append_right (Nat.le_refl _),Nat.sub_self];rfl
theorem WX {α : Type} (A:List α) (x y : α) (B:List α) {i:Nat} (h:i=A.length):(A++x::B).set i y=A++y::B:=by
 subst h;rw [List.set_append_right _ _ (Nat.le_refl _),Nat.sub_self];rfl
theorem CJ (A B C:List PI) (x y:PI) {i j:Nat} (hi:i=A.length) (hj:j=A.length+1+B.length):sw (A++x::(B++y::C)) i j=A++y::(B++x::C):=by
 have h1:(A++x::(B++y::C))[i]? = some x:=KQ A x _ hi;have e:A++x::(B++y::C)=(A++x::B)++y::C:=by simp
 have h2:(A++x::(B++y::C))[j]? = some y:=by rw [e]; exact KQ _ y C (by simp; omega)
 unfold sw;rw [h1,h2];show ((A++x::(B++y::C)).set i y).set j x=_;rw [WX A x y _ hi,show A++y::(B++y::C)=(A++y::B)++y::C by simp,WX _ y x C (by simp; omega)];simp
theorem E2 (A B C:List PI) (x y:PI) {i j:Nat} (hi:i=A.length+1+B.length) (hj:j=A.length):sw (A++x::(B++y::C)) i j=A++y::(B++x::C):=by
 have h1:(A++x::(B++y::C))[j]? = some x:=KQ A x _ hj;have e:A++x::(B++y::C)=(A++x::B)++y::C:=by simp
 have h2:(A++x::(B++y::C))[i]? = some y:=by rw [e]; exact KQ _ y C (by simp; omega)
 unfold sw;rw [h1,h2];show ((A++x::(B++y::C)).set i x).set j y=_;rw [e,WX _ y x C (by simp; omega),show (A++x::B)++x::C=A++x::(B++x::C) by simp,WX A x y _ hj]
theorem X6:∀ (n:Nat) (A X B Y C:List PI) {a b:Nat},X.length=n->Y.length=n->a=A.length->b=A.length+n+B.length->Jl (A++(X++(B++(Y++C)))) a b n=A++(Y++(B++(X++C)))
 | 0,A,X,B,Y,C,a,b,hx,hy,ha,hb=>by
  have e1:=List.eq_nil_of_length_eq_zero hx;have e2:=List.eq_nil_of_length_eq_zero hy;subst e1; subst e2
  rfl
 | n+1,A,X,B,Y,C,a,b,hx,hy,ha,hb=>by
  obtain ⟨X',x,rfl⟩:∃ X' x,X=X'++[x]:=⟨X.dropLast,X.getLast (by intro h; subst h; cases hx),(List.dropLast_concat_getLast _).symm⟩
  obtain ⟨Y',y,rfl⟩:∃ Y' y,Y=Y'++[y]:=⟨Y.dropLast,Y.getLast (by intro h; subst h; cases hy),(List.dropLast_concat_getLast _).symm⟩
  simp only [List.length_append,List.length_cons,List.length_nil] at hx hy;rw [Jl];have e:A++(X'++[x]++(B++(Y'++[y]++C)))=A++(X'++((x::B)++(Y'++(y::C)))):=by simp
  rw [e,X6 n A X' (x::B) Y' (y::C) (by omega) (by omega) ha (by simp; omega)];have e2:A++(Y'++((x::B)++(X'++(y::C))))=(A++Y')++x::((B++X')++y::C):=by simp
  rw [e2,CJ (A++Y') (B++X') C x y (by simp; omega) (by simp; omega)];simp
theorem Tl:∀ (f:Nat) (P X Y Q:List PI) {m i j:Nat},X.length=i->Y.length=j->m=P.length+i->0<i->0<j->i+j<=f->Wd f (P++(X++(Y++Q))) m i j=P++(Y++(X++Q))
 | 0,_,_,_,_,m,i,j,_,_,_,_,_,_=>by omega
 | f+1,P,X,Y,Q,m,i,j,hx,hy,hm,hi,hj,hf=>by
  rw [Wd];by_cases e:i=j
  ·rw [if_pos e];have:=X6 i P X [] Y Q (a:=m-i) (b:=m) hx (by omega) (by omega) (by simp; omega);simpa using this
  ·rw [if_neg e];by_cases h:j<i
   ·rw [if_pos h];obtain ⟨A,B,rfl,hA⟩:∃ A B,X=A++B/\A.length=j:=⟨X.take j,X.drop j,(List.take_append_drop j X).symm,by rw [List.length_take]; omega⟩
    rw [List.length_append] at hx;have h1:=X6 j P A B Y Q (a:=m-i) (b:=m) hA hy (by omega) (by omega);rw [show P++(A++B++(Y++Q))=P++(A++(B++(Y++Q))) by simp,h1];rw [show P++(Y++(B++(A++Q)))=(P++Y)++(B++(A++Q)) by simp];rw [Tl f (P++Y) B A Q (by omega) hA (by rw [List.length_append]; omega) (by omega) hj (by omega)];simp
   ·rw [if_neg h];obtain ⟨C,D,rfl,hC⟩:∃ C D,Y=C++D/\C.length=j-i:=⟨Y.take (j-i),Y.drop (j-i),(List.take_append_drop _ Y).symm,by rw [List.length_take]; omega⟩
    rw [List.length_append] at hy;have h1:=X6 i P X C D Q (a:=m-i) (b:=m+j-i) hx (by omega) (by omega) (by omega);rw [show P++(X++(C++D++Q))=P++(X++(C++(D++Q))) by simp,h1];rw [Tl f P D C (X++Q) (by omega) hC hm hi (by omega) (by omega)];simp
theorem H5:∀ (Y A C:List PI) (x:PI) {k:Nat},k=A.length->upN Y.length k (A++x::(Y++C))=A++(Y++x::C)
 | [],A,C,x,k,h=>by simp [upN]
 | y::Y,A,C,x,k,h=>by
  rw [List.length_cons,upN];have:=CJ A [] (Y++C) x y (i:=k) (j:=k+1) h (by simp; omega);simp only [List.nil_append] at this;rw [List.cons_append,this,show A++y::x::(Y++C)=(A++[y])++x::(Y++C) by simp,H5 Y (A++[y]) C x (by simp; omega)];simp
theorem Pm:∀ (n:Nat) (A Y C:List PI) (x:PI) {k:Nat},Y.length=n->k=A.length+n->Kv n k (A++(Y++x::C))=A++x::(Y++C)
 | 0,A,Y,C,x,k,hn,h=>by
  have:=List.eq_nil_of_length_eq_zero hn;subst this;simp [Kv]
 | n+1,A,Y,C,x,k,hn,h=>by
  obtain ⟨Y',y,rfl⟩:∃ Y' y,Y=Y'++[y]:=⟨Y.dropLast,Y.getLast (by intro h; subst h; cases hn),(List.dropLast_concat_getLast _).symm⟩
  simp only [List.length_append,List.length_cons,List.length_nil] at hn;rw [Kv];have:=E2 (A++Y') [] C y x (i:=k) (j:=k-1) (by simp; omega) (by simp; omega);simp only [List.nil_append] at this
  rw [show A++(Y'++[y]++x::C)=A++Y'++y::x::C by simp,this,show A++Y'++x::y::C=A++(Y'++x::(y::C)) by simp,
   Pm n A Y' (y::C) x (by omega) (by omega)]
  simp
def bs (p:Nat->Bool):Nat->Nat->Nat->Nat
 | 0,i,_=>i
 | f+1,i,j=>if i<j then (if p ((i+j) / 2) then bs p f ((i+j) / 2+1) j else bs p f i ((i+j) / 2)) else i
theorem Rc (p:Nat->Bool) (lo hi:Nat):∀ (f i j:Nat),lo<=i->i<=j->j<=hi->j-i<=f->(lo<i->p (i-1)=true)->(j<hi->p j=false) ->
  i<=bs p f i j/\bs p f i j<=j/\(lo<bs p f i j->p (bs p f i j-1)=true)/\(bs p f i j<hi->p (bs p f i j)=false)
 | 0,i,j,h1,h2,h3,h4,h5,h6=>by
  have e:i=j:=by omega
  subst e;exact ⟨Nat.le_refl _,Nat.le_refl _,h5,h6⟩
 | f+1,i,j,h1,h2,h3,h4,h5,h6=>by
  rw [bs];by_cases h:i<j
  ·rw [if_pos h];by_cases hp:p ((i+j) / 2)=true
   ·rw [if_pos hp];obtain ⟨k1,k2,k3,k4⟩:=Rc p lo hi f ((i+j) / 2+1) j (by omega) (by omega) h3 (by omega) (fun _=>hp) h6;exact ⟨by omega,k2,k3,k4⟩
   ·rw [if_neg hp];obtain ⟨k1,k2,k3,k4⟩:=Rc p lo hi f i ((i+j) / 2) h1 (by omega) (by omega) (by omega) h5 (fun _=>by simpa using hp);exact ⟨k1,by omega,k3,k4⟩
  ·rw [if_neg h];have e:i=j:=by omega
   subst e;exact ⟨Nat.le_refl _,Nat.le_refl _,h5,h6⟩
theorem UL (ps:List PI) (x:PI):∀ (f i j:Nat),j<=ps.length->bs1 ps x f i j=bs (fun h=>match ps[h]? with | some y=>decide (Xu y x<0) | none=>false) f i j
 | 0,_,_,_=>rfl
 | f+1,i,j,hj=>by
  rw [bs1,bs];by_cases h:i<j
  ·rw [if_pos h,if_pos h];obtain ⟨y,hy⟩:∃ y,ps[(i+j) / 2]? = some y:=⟨_,List.getElem?_eq_getElem (by omega)⟩
   simp only [hy];by_cases hn:Xu y x<0
   ·simp only [hn,if_true,decide_true];exact UL ps x f _ j hj
   ·simp only [hn,if_false,decide_false,Bool.false_eq_true];exact UL ps x f i _ (by omega)
  ·rw [if_neg h,if_neg h]
theorem UM (ps:List PI) (x:PI):∀ (f i j:Nat),j<=ps.length->bs2 ps x f i j=bs (fun h=>match ps[h]? with | some y => !decide (Xu x y<0) | none=>false) f i j
 | 0,_,_,_=>rfl
 | f+1,i,j,hj=>by
  rw [bs2,bs];by_cases h:i<j
  ·rw [if_pos h,if_pos h];obtain ⟨y,hy⟩:∃ y,ps[(i+j) / 2]? = some y:=⟨_,List.getElem?_eq_getElem (by omega)⟩
   simp only [hy];by_cases hn:Xu x y<0
   ·simp only [hn,if_true,decide_true,Bool.not_true,Bool.false_eq_true,if_false];exact UM ps x f i _ (by omega)
   ·simp only [hn,if_false,decide_false,Bool.not_false,if_true];exact UM ps x f _ j hj
  ·rw [if_neg h,if_neg h]
theorem UN (ps:List PI) (p:Nat):∀ (f i j:Nat),j<=ps.length->p-i<ps.length->bs3 ps p f i j=bs (fun h=>match ps[p-h]?,ps[h]? with | some x,some y => !decide (Xu x y<0) | _,_=>false) f i j
 | 0,_,_,_,_=>rfl
 | f+1,i,j,hj,hp=>by
  rw [bs3,bs];by_cases h:i<j
  ·rw [if_pos h,if_pos h];obtain ⟨y,hy⟩:∃ y,ps[(i+j) / 2]? = some y:=⟨_,List.getElem?_eq_getElem (by omega)⟩
   obtain ⟨x,hx⟩:∃ x,ps[p-(i+j) / 2]? = some x:=⟨_,List.getElem?_eq_getElem (by omega)⟩
   simp only [hy,hx];by_cases hn:Xu x y<0
   ·simp only [hn,if_true,decide_true,Bool.not_true,Bool.false_eq_true,if_false];exact UN ps p f i _ (by omega) hp
   ·simp only [hn,if_false,decide_false,Bool.not_false,if_true];exact UN ps p f _ j hj (by omega)
  ·rw [if_neg h,if_neg h]
end
section
def le (p q:PI):Prop:=rle p.2.row q.2.row
def RVs (l:List PI):Prop:=∀ p∈l,RV p.2.row
theorem le_of_lt {p q:PI} (h:Xu p q<0):le p q:=by
 unfold le rle;exact Int.le_of_lt h
theorem Yq {p q:PI} (hp:RV p.2.row) (hq:RV q.2.row) (h:¬ Xu p q<0):le q p:=by
 rcases Oh hq hp with h1 | h1
 ·exact h1
 ·have:Xu p q=0:=by
   unfold rle at h1;unfold Xu at h ⊢;omega
  have e:=(QW hp hq).1 this;unfold le;rw [e];exact ML hq
theorem le_trans' {p q r:PI} (hp:RV p.2.row) (hq:RV q.2.row) (hr:RV r.2.row) (h:le p q) (k:le q r):le p r:=ZaX hp hq hr h k
theorem E3 {A B:List PI} {u v:PI} (hA:(A++[u]).Pairwise le) (hB:(v::B).Pairwise le) (huv:le u v) (rA:RVs (A++[u])) (rB:RVs (v::B)):∀ x∈A++[u],∀ y∈v::B,le x y:=by
 intro x hx y hy;have ru:=rA u (by simp);have rv:=rB v (by simp)
 have h1:le x u:=by
  rcases List.mem_append.1 hx with h | h
  ·exact (List.pairwise_append.1 hA).2.2 x h u (by simp)
  ·rw [List.mem_singleton.1 h]; exact ML ru
 have h2:le v y:=by
  rcases List.mem_cons.1 hy with rfl | h
  ·exact ML rv
  ·exact (List.pairwise_cons.1 hB).1 y h
 exact le_trans' (rA x hx) ru (rB y hy) h1 (le_trans' ru rv (rB y hy) huv h2)
theorem Su {X Y:List PI} (hX:X.Pairwise le) (hY:Y.Pairwise le) (rX:RVs X) (rY:RVs Y) (h:∀ u v,X.getLast? = some u->Y.head? = some v->le u v):∀ x∈X,∀ y∈Y,le x y:=by
 intro x hx y hy
 obtain ⟨v,B,rfl⟩:∃ v B,Y=v::B:=by
  cases Y with
  | nil=>cases hy
  | cons v B=>exact ⟨v,B,rfl⟩
 obtain ⟨A,u,rfl⟩:∃ A u,X=A++[u]:=⟨X.dropLast,X.getLast (by intro h; subst h; cases hx),(List.dropLast_concat_getLast _).symm⟩
 exact E3 hX hY (h u v (by simp) rfl) rX rY x hx y hy
theorem AB (P L R Q:List PI) {i m:Nat} (hm:m=P.length+L.length) (h1:m<=i) (h2:i<m+R.length):(P++(L++(R++Q)))[i]? = R[i-m]? := by
 rw [List.getElem?_append_right (by omega),List.getElem?_append_right (by omega),List.getElem?_append_left (by omega)]
 congr 1
 omega
theorem Zk7 (P L Q:List PI) {i a:Nat} (ha:a=P.length) (h1:a<=i) (h2:i<a+L.length):(P++(L++Q))[i]? = L[i-a]? := by
 rw [List.getElem?_append_right (by omega),List.getElem?_append_left (by omega)]
 congr 1
 omega
theorem RVs.sub {l k:List PI} (h:RVs l) (hs:∀ x∈k,x∈l):RVs k:=fun x hx=>h x (hs x hx)
theorem Zl5 (P R Q:List PI) (x:PI) {a m b:Nat} (ha:a=P.length) (hm:m=a+1) (hb:b=m+R.length) (hr:RVs (x::R)) (hR:R.Pairwise le) :
  ∃ S,upN (bs1 (P++(x::(R++Q))) x (b-m) m b-1-a) a (P++(x::(R++Q)))=P++(S++Q)/\S.Perm (x::R)/\S.Pairwise le:=by
 have hat:∀ i,m<=i->i<b->(P++(x::(R++Q)))[i]? = R[i-m]? := fun i h1 h2=>by
  have:=AB P [x] R Q (i:=i) (m:=m) (by simp; omega) h1 (by omega);simpa using this
 rw [UL _ _ _ _ _ (by simp; omega)];obtain ⟨k1,k2,k3,k4⟩:=Rc (fun h=>match (P++(x::(R++Q)))[h]? with | some y=>decide (Xu y x<0) | none=>false) m b (b-m) m b (Nat.le_refl _) (by omega) (Nat.le_refl _) (Nat.le_refl _) (fun h=>absurd h (by omega)) (fun h=>absurd h (by omega))
 generalize hr0:bs _ (b-m) m b=r at k1 k2 k3 k4 ⊢
 obtain ⟨R1,R2,aH,hl⟩:∃ R1 R2,R=R1++R2/\R1.length=r-m:=⟨R.take (r-m),R.drop (r-m),(List.take_append_drop _ R).symm,by rw [List.length_take]; omega⟩
 have hu:=H5 R1 P (R2++Q) x ha;have e1:P++(x::(R++Q))=P++x::(R1++(R2++Q)):=by rw [aH]; simp
 have rx:RV x.2.row:=hr x (by simp);refine ⟨R1++x::R2,?_,?_,?_⟩
 ·rw [e1,show r-1-a=R1.length by omega,hu];simp
 ·rw [aH];exact List.perm_middle
 ·have h12:=aH▸hR;obtain ⟨q1,q2,q3⟩:=List.pairwise_append.1 h12;have ra:RVs R1:=hr.sub fun y hy=>by rw [aH]; simp [hy]
  have rb:RVs R2:=hr.sub fun y hy=>by rw [aH]; simp [hy]
  have c1:∀ y∈R1,le y x:=by
   intro y hy;refine Su q1 (Y:=[x]) (by simp) ra (fun p hp=>by rw [List.mem_singleton.1 hp]; exact rx) (fun u v h1 h2 => ?_) y hy x (by simp);have hpos:0<R1.length:=List.length_pos_of_mem hy;have h3:=k3 (by omega);simp only [List.head?_cons,Option.some.injEq] at h2;subst h2;rw [hat (r-1) (by omega) (by omega),show r-1-m=R1.length-1 by omega,aH,List.getElem?_append_left (by omega),<- List.getLast?_eq_getElem?,h1] at h3;simp only [decide_eq_true_eq] at h3;exact le_of_lt h3
  have c2:∀ y∈R2,le x y:=by
   intro y hy;refine Su (X:=[x]) (by simp) q2 (fun p hp=>by rw [List.mem_singleton.1 hp]; exact rx) rb (fun u v h1 h2 => ?_) x (by simp) y hy;have hpos:0<R2.length:=List.length_pos_of_mem hy;have hlen:R.length=R1.length+R2.length:=by rw [aH,List.length_append]
   have h4:=k4 (by omega);simp only [List.getLast?_singleton,Option.some.injEq] at h1;subst h1;rw [hat r k1 (by omega),aH,List.getElem?_append_right (by omega),show r-m-R1.length=0 by omega,<- List.head?_eq_getElem?,h2] at h4;simp only [decide_eq_false_iff_not] at h4;exact Yq (rb v (by cases R2 with | nil=>cases h2 | cons z zs=>simp at h2; subst h2; simp)) rx h4
  rw [List.pairwise_append];refine ⟨q1,List.pairwise_cons.2 ⟨c2,q2⟩,fun y hy z hz => ?_⟩;rcases List.mem_cons.1 hz with rfl | hz
  ·exact c1 y hy
  ·exact q3 y hy z hz
theorem Zl6 (P L Q:List PI) (x:PI) {a m:Nat} (ha:a=P.length) (hm:m=a+L.length) (hr:RVs (x::L)) (hL:L.Pairwise le) :
  ∃ S,Kv (m-bs2 (P++(L++x::Q)) x (m-a) a m) m (P++(L++x::Q))=P++(S++Q)/\S.Perm (L++[x])/\S.Pairwise le:=by
 have hat:∀ i,a<=i->i<m->(P++(L++x::Q))[i]? = L[i-a]? := fun i h1 h2=>Zk7 P L (x::Q) ha h1 (by omega);rw [UM _ _ _ _ _ (by simp; omega)];obtain ⟨k1,k2,k3,k4⟩:=Rc (fun h=>match (P++(L++x::Q))[h]? with | some y => !decide (Xu x y<0) | none=>false) a m (m-a) a m (Nat.le_refl _) (by omega) (Nat.le_refl _) (Nat.le_refl _) (fun h=>absurd h (by omega)) (fun h=>absurd h (by omega))
 generalize hr0:bs _ (m-a) a m=r at k1 k2 k3 k4 ⊢
 obtain ⟨L1,L2,aI,hl⟩:∃ L1 L2,L=L1++L2/\L1.length=r-a:=⟨L.take (r-a),L.drop (r-a),(List.take_append_drop _ L).symm,by rw [List.length_take]; omega⟩
 have hlen:L.length=L1.length+L2.length:=by rw [aI,List.length_append]
 have hu:=Pm (m-r) (P++L1) L2 Q x (k:=m) (by omega) (by simp; omega);have e1:P++(L++x::Q)=P++L1++(L2++x::Q):=by rw [aI]; simp
 have rx:RV x.2.row:=hr x (by simp);refine ⟨L1++x::L2,?_,?_,?_⟩
 ·rw [e1,hu];simp
 ·rw [aI];exact List.perm_middle.trans (List.perm_append_singleton x (L1++L2)).symm
 ·have h12:=aI▸hL;obtain ⟨q1,q2,q3⟩:=List.pairwise_append.1 h12;have ra:RVs L1:=hr.sub fun y hy=>by rw [aI]; simp [hy]
  have rb:RVs L2:=hr.sub fun y hy=>by rw [aI]; simp [hy]
  have c1:∀ y∈L1,le y x:=by
   intro y hy;refine Su q1 (Y:=[x]) (by simp) ra (fun p hp=>by rw [List.mem_singleton.1 hp]; exact rx) (fun u v h1 h2 => ?_) y hy x (by simp);have hpos:0<L1.length:=List.length_pos_of_mem hy;have h3:=k3 (by omega);simp only [List.head?_cons,Option.some.injEq] at h2;subst h2;rw [hat (r-1) (by omega) (by omega),show r-1-a=L1.length-1 by omega,aI,List.getElem?_append_left (by omega),<- List.getLast?_eq_getElem?,h1] at h3;simp only [Bool.not_eq_true',decide_eq_false_iff_not] at h3;exact Yq rx (ra u (List.mem_of_getLast? h1)) h3
  have c2:∀ y∈L2,le x y:=by
   intro y hy;refine Su (X:=[x]) (by simp) q2 (fun p hp=>by rw [List.mem_singleton.1 hp]; exact rx) rb (fun u v h1 h2 => ?_) x (by simp) y hy;have hpos:0<L2.length:=List.length_pos_of_mem hy;have h4:=k4 (by omega);simp only [List.getLast?_singleton,Option.some.injEq] at h1;subst h1;rw [hat r k1 (by omega),aI,List.getElem?_append_right (by omega),show r-a-L1.length=0 by omega,<- List.head?_eq_getElem?,h2] at h4;simp only [Bool.not_eq_false',decide_eq_true_eq] at h4;exact le_of_lt h4
  rw [List.pairwise_append];refine ⟨q1,List.pairwise_cons.2 ⟨c2,q2⟩,fun y hy z hz => ?_⟩;rcases List.mem_cons.1 hz with rfl | hz
  ·exact c1 y hy
  ·exact q3 y hy z hz
end
section
theorem ZdT (P L R Q:List PI) {a m b lo hi n:Nat} (ha:a=P.length) (hm:m=a+L.length) (hb:b=m+R.length) (hlh:lo<=hi) (hlo:a<=lo) (him:hi<=m) (h1:n-1-lo<b) (h2:m<=n-hi) (hn:hi<n) :
  lo<=bs3 (P++(L++(R++Q))) (n-1) (hi-lo) lo hi/\bs3 (P++(L++(R++Q))) (n-1) (hi-lo) lo hi<=hi /\
   (lo<bs3 (P++(L++(R++Q))) (n-1) (hi-lo) lo hi->∀ u v,L[bs3 (P++(L++(R++Q))) (n-1) (hi-lo) lo hi-1-a]? = some u->R[n-bs3 (P++(L++(R++Q))) (n-1) (hi-lo) lo hi-m]? = some v->¬ Xu v u<0) /\
   (bs3 (P++(L++(R++Q))) (n-1) (hi-lo) lo hi<hi->∀ u v,R[n-1-bs3 (P++(L++(R++Q))) (n-1) (hi-lo) lo hi-m]? = some u->L[bs3 (P++(L++(R++Q))) (n-1) (hi-lo) lo hi-a]? = some v->Xu u v<0):=by
 have hL:∀ i,a<=i->i<m->(P++(L++(R++Q)))[i]? = L[i-a]? := fun i k1 k2=>Zk7 P L (R++Q) ha k1 (by omega);have hR:∀ i,m<=i->i<b->(P++(L++(R++Q)))[i]? = R[i-m]? := fun i k1 k2=>AB P L R Q (by omega) k1 (by omega);rw [UN _ _ _ _ _ (by simp; omega) (by simp; omega)];obtain ⟨k1,k2,k3,k4⟩:=Rc (fun h=>match (P++(L++(R++Q)))[n-1-h]?,(P++(L++(R++Q)))[h]? with | some x,some y => !decide (Xu x y<0) | _,_=>false) lo hi (hi-lo) lo hi (Nat.le_refl _) hlh (Nat.le_refl _) (Nat.le_refl _) (fun h=>absurd h (by omega)) (fun h=>absurd h (by omega))
 generalize hr0:bs _ (hi-lo) lo hi=st at k1 k2 k3 k4 ⊢
 refine ⟨k1,k2,fun h u v hu hv => ?_,fun h u v hu hv => ?_⟩
 ·have h3:=k3 h;rw [hL (st-1) (by omega) (by omega),hR (n-1-(st-1)) (by omega) (by omega),hu,show n-1-(st-1)-m=n-st-m by omega,hv] at h3;simpa using h3
 ·have h4:=k4 h;rw [hL st (by omega) (by omega),hR (n-1-st) (by omega) (by omega),hu,hv] at h4;simpa using h4
theorem WY:∀ (f:Nat) {a m b:Nat} (P L R Q:List PI),a=P.length->m=a+L.length->b=m+R.length->b-a<=f->0<L.length->0<R.length->RVs (L++R)->L.Pairwise le->R.Pairwise le ->
  ∃ S,VI f a m b (P++(L++(R++Q)))=P++(S++Q)/\S.Perm (L++R)/\S.Pairwise le
 | 0,a,m,b,P,L,R,Q,ha,hm,hb,hf,hl,hr,_,_,_=>by omega
 | f+1,a,m,b,P,L,R,Q,ha,hm,hb,hf,hl0,hr0,aX,hL,hR=>by
  have rL:RVs L:=aX.sub fun x hx=>by simp [hx]
  have rR:RVs R:=aX.sub fun x hx=>by simp [hx]
  rw [VI];by_cases e1:a+1=m
  ·rw [if_pos e1];obtain ⟨x,rfl⟩:∃ x,L=[x]:=List.length_eq_one_iff.1 (by omega);have hx:(P++([x]++(R++Q)))[a]? = some x:=KQ P x _ ha;rw [hx];obtain ⟨S,h1,h2,h3⟩:=Zl5 P R Q x ha e1.symm hb (by simpa using aX) hR;exact ⟨S,by simpa using h1,by simpa using h2,h3⟩
  rw [if_neg e1];by_cases e2:m+1=b
  ·rw [if_pos e2];obtain ⟨x,rfl⟩:∃ x,R=[x]:=List.length_eq_one_iff.1 (by omega);have e:P++(L++([x]++Q))=(P++L)++x::Q:=by simp
   have hx:(P++(L++([x]++Q)))[m]? = some x:=by rw [e]; exact KQ (P++L) x Q (by simp; omega)
   rw [hx];obtain ⟨S,h1,h2,h3⟩:=Zl6 P L Q x ha hm (aX.sub fun y hy=>by simp at hy ⊢; exact hy.symm) hL;exact ⟨S,by simpa using h1,h2,h3⟩
  rw [if_neg e2];simp only;obtain ⟨mid,hmid⟩:∃ x,(a+b) / 2=x:=⟨_,rfl⟩
  rw [hmid];obtain ⟨n,hn⟩:∃ x,mid+m=x:=⟨_,rfl⟩
  rw [hn];obtain ⟨lo,hlo⟩:∃ x,(if mid<m then n-b else a)=x:=⟨_,rfl⟩
  obtain ⟨hi,hhi⟩:∃ x,(if mid<m then mid else m)=x:=⟨_,rfl⟩
  rw [hlo,hhi]
  have hcase:(mid<m/\lo=n-b/\hi=mid)\/(m<=mid/\lo=a/\hi=m):=by
   by_cases h:mid<m
   ·rw [if_pos h] at hlo hhi;exact .inl ⟨h,hlo.symm,hhi.symm⟩
   ·rw [if_neg h] at hlo hhi;exact .inr ⟨by omega,hlo.symm,hhi.symm⟩
  clear hlo hhi;have hs:=ZdT P L R Q ha hm hb (lo:=lo) (hi:=hi) (n:=n) (by omega) (by omega) (by omega) (by omega) (by omega) (by omega);obtain ⟨st,hst⟩:∃ x,bs3 (P++(L++(R++Q))) (n-1) (hi-lo) lo hi=x:=⟨_,rfl⟩
  rw [hst] at hs ⊢;clear hst;obtain ⟨s1,s2,s3,s4⟩:=hs;obtain ⟨en,hen⟩:∃ x,n-st=x:=⟨_,rfl⟩
  rw [hen];rw [hen] at s3;have t1:a<=st:=by omega
  have t2:st<=m:=by omega
  have t3:m<=en:=by omega
  have t4:en<=b:=by omega
  have t5:st+en=mid+m:=by omega
  obtain ⟨L1,L2,aI,hl1⟩:∃ L1 L2,L=L1++L2/\L1.length=st-a:=⟨L.take (st-a),L.drop (st-a),(List.take_append_drop _ L).symm,by rw [List.length_take]; omega⟩
  obtain ⟨R1,R2,aH,hr1⟩:∃ R1 R2,R=R1++R2/\R1.length=en-m:=⟨R.take (en-m),R.drop (en-m),(List.take_append_drop _ R).symm,by rw [List.length_take]; omega⟩
  have hl2:L2.length=m-st:=by rw [aI,List.length_append] at hm; omega
  have hr2:R2.length=b-en:=by rw [aH,List.length_append] at hb; omega
  have pL:=List.pairwise_append.1 (aI▸hL);have pR:=List.pairwise_append.1 (aH▸hR);have xq:RVs L1:=rL.sub fun x hx=>by rw [aI]; simp [hx]
  have AJ:RVs L2:=rL.sub fun x hx=>by rw [aI]; simp [hx]
  have AL:RVs R1:=rR.sub fun x hx=>by rw [aH]; simp [hx]
  have xu:RVs R2:=rR.sub fun x hx=>by rw [aH]; simp [hx]
  have c1:∀ x∈L1,∀ y∈R2,le x y:=Su pL.1 pR.2.1 xq xu fun u v hu hv=>by
   have hu1:0<L1.length:=by cases L1 with | nil=>cases hu | cons=>simp
   have hv1:0<R2.length:=by cases R2 with | nil=>cases hv | cons=>simp
   have hru:=xq u (List.mem_of_getLast? hu);have bH:=xu v (by cases R2 with | nil=>cases hv | cons z zs=>simp at hv; subst hv; simp);refine Yq bH hru (s3 (by omega) u v ?_ ?_)
   ·rw [aI,List.getElem?_append_left (by omega),show st-1-a=L1.length-1 by omega,<- List.getLast?_eq_getElem?];exact hu
   ·rw [aH,List.getElem?_append_right (by omega),show en-m-R1.length=0 by omega,<- List.head?_eq_getElem?];exact hv
  have c2:∀ x∈R1,∀ y∈L2,le x y:=Su pR.1 pL.2.1 AL AJ fun u v hu hv=>by
   have hu1:0<R1.length:=by cases R1 with | nil=>cases hu | cons=>simp
   have hv1:0<L2.length:=by cases L2 with | nil=>cases hv | cons=>simp
   refine le_of_lt (s4 (by omega) u v ?_ ?_)
   ·rw [aH,List.getElem?_append_left (by omega),show n-1-st-m=R1.length-1 by omega,<- List.getLast?_eq_getElem?];exact hu
   ·rw [aI,List.getElem?_append_right (by omega),show st-a-L1.length=0 by omega,<- List.head?_eq_getElem?];exact hv
  have h1:(if st<m/\m<en then Wd (m-st+(en-m)) (P++(L++(R++Q))) m (m-st) (en-m) else P++(L++(R++Q)))=P++(L1++(R1++(L2++(R2++Q)))):=by
   by_cases h:st<m/\m<en
   ·rw [if_pos h];have:=Tl (m-st+(en-m)) (P++L1) L2 R1 (R2++Q) (m:=m) hl2 hr1 (by rw [List.length_append]; omega) (by omega) (by omega) (Nat.le_refl _);rw [aI,aH];simpa using this
   ·rw [if_neg h];by_cases h0:st<m
    ·have:R1=[]:=List.eq_nil_of_length_eq_zero (by omega);subst this;rw [aI,aH];simp
    ·have:L2=[]:=List.eq_nil_of_length_eq_zero (by omega);subst this;rw [aI,aH];simp
  rw [h1]
  obtain ⟨S1,h2,q2,q3⟩:∃ S1,(if a<st/\st<mid then VI f a st mid (P++(L1++(R1++(L2++(R2++Q))))) else P++(L1++(R1++(L2++(R2++Q)))))=P++(S1++(L2++(R2++Q)))/\S1.Perm (L1++R1)/\S1.Pairwise le:=by
   by_cases h:a<st/\st<mid
   ·rw [if_pos h];exact WY f P L1 R1 (L2++(R2++Q)) ha (by omega) (by omega) (by omega) (by omega) (by omega) (fun x hx=>by rcases List.mem_append.1 hx with h | h; exact xq x h; exact AL x h) pL.1 pR.1
   ·rw [if_neg h];refine ⟨L1++R1,by simp,List.Perm.refl _,?_⟩;by_cases h0:a<st
    ·have:R1=[]:=List.eq_nil_of_length_eq_zero (by omega);subst this;simpa using pL.1
    ·have:L1=[]:=List.eq_nil_of_length_eq_zero (by omega);subst this;simpa using pR.1
  rw [h2];have hS1:S1.length=mid-a:=by rw [q2.length_eq,List.length_append]; omega
  obtain ⟨S2,h3,q4,q5⟩:∃ S2,(if mid<en/\en<b then VI f mid en b (P++(S1++(L2++(R2++Q)))) else P++(S1++(L2++(R2++Q))))=P++(S1++(S2++Q))/\S2.Perm (L2++R2)/\S2.Pairwise le:=by
   by_cases h:mid<en/\en<b
   ·rw [if_pos h];obtain ⟨S2,k1,k2,k3⟩:=WY f (a:=mid) (m:=en) (b:=b) (P++S1) L2 R2 Q (by rw [List.length_append]; omega) (by omega) (by omega) (by omega) (by omega) (by omega) (fun x hx=>by rcases List.mem_append.1 hx with h | h; exact AJ x h; exact xu x h) pL.2.1 pR.2.1;exact ⟨S2,by simpa using k1,k2,k3⟩
   ·rw [if_neg h];refine ⟨L2++R2,by simp,List.Perm.refl _,?_⟩;by_cases h0:mid<en
    ·have:R2=[]:=List.eq_nil_of_length_eq_zero (by omega);subst this;simpa using pL.2.1
    ·have:L2=[]:=List.eq_nil_of_length_eq_zero (by omega);subst this;simpa using pR.2.1
  rw [h3];refine ⟨S1++S2,by simp,?_,?_⟩
  ·rw [aI,aH];refine (q2.append q4).trans ?_;rw [List.append_assoc,List.append_assoc];refine List.Perm.append_left L1 ?_;rw [<- List.append_assoc,<- List.append_assoc];exact List.Perm.append_right R2 List.perm_append_comm
  ·rw [List.pairwise_append];refine ⟨q3,q5,fun x hx y hy => ?_⟩;rcases List.mem_append.1 (q2.mem_iff.1 hx) with hx | hx <;> rcases List.mem_append.1 (q4.mem_iff.1 hy) with hy | hy
   ·exact pL.2.2 x hx y hy
   ·exact c1 x hx y hy
   ·exact c2 x hx y hy
   ·exact pR.2.2 x hx y hy
end
section
open Go.RowKit
theorem YT:∀ (n:Nat) (P S T:List PI) (x:PI) {a j:Nat},S.length=n->a=P.length->j=a+n->RVs S->RV x.2.row->S.Pairwise le ->
  ∃ S1 S2,QS a j (P++(S++x::T))=P++(S1++x::(S2++T))/\S=S1++S2/\(S1++x::S2).Pairwise le
 | 0,P,S,T,x,a,j,hn,ha,hj,_,_,_=>by
  have e:=List.eq_nil_of_length_eq_zero hn;subst e;refine ⟨[],[],?_,rfl,by simp⟩;cases j with
  | zero=>rfl
  | succ j=>rw [QS,if_neg (by omega)]; rfl
 | n+1,P,S,T,x,a,j,hn,ha,hj,rS,rx,hS=>by
  obtain ⟨S',y,rfl⟩:∃ S' y,S=S'++[y]:=⟨S.dropLast,S.getLast (by intro h; subst h; cases hn),(List.dropLast_concat_getLast _).symm⟩
  simp only [List.length_append,List.length_cons,List.length_nil] at hn;obtain ⟨j',rfl⟩:∃ j',j=j'+1:=⟨j-1,by omega⟩
  have e:P++(S'++[y]++x::T)=(P++S')++y::([]++x::T):=by simp
  have hx:(P++(S'++[y]++x::T))[j'+1]? = some x:=by
   rw [e,show (P++S')++y::([]++x::T)=(P++S'++[y])++x::T by simp];exact KQ _ x T (by simp; omega)
  have hy:(P++(S'++[y]++x::T))[j']? = some y:=by rw [e]; exact KQ _ y _ (by simp; omega)
  have ry:=rS y (by simp);have AO:RVs S':=rS.sub fun z hz=>by simp [hz]
  have pS:=List.pairwise_append.1 hS;rw [QS,if_pos (by omega),hx,hy];simp only;by_cases h:Xu x y<0
  ·rw [if_pos h]
   have hsw:((P++(S'++[y]++x::T)).set (j'+1) y).set j' x=P++(S'++x::(y::T)):=by
    have:=E2 (P++S') [] T y x (i:=j'+1) (j:=j') (by simp; omega) (by simp; omega);rw [<- e] at this;unfold sw at this;rw [hx,hy] at this;simp only at this;rw [this];simp
   rw [hsw];obtain ⟨S1,S2,h1,h2,h3⟩:=YT n P S' (y::T) x (a:=a) (j:=j') (by omega) ha (by omega) AO rx pS.1;refine ⟨S1,S2++[y],by rw [h1]; simp,by rw [h2]; simp,?_⟩;have h4:=List.pairwise_append.1 h3;have h5:=List.pairwise_cons.1 h4.2.1;rw [show S1++x::(S2++[y])=(S1++x::S2)++[y] by simp,List.pairwise_append];refine ⟨h3,by simp,fun z hz w hw => ?_⟩;rw [List.mem_singleton.1 hw];rcases List.mem_append.1 hz with hz | hz
   ·exact pS.2.2 z (by rw [h2]; simp [hz]) y (by simp)
   ·rcases List.mem_cons.1 hz with rfl | hz
    ·exact le_of_lt h
    ·exact pS.2.2 z (by rw [h2]; simp [hz]) y (by simp)
  ·rw [if_neg h];refine ⟨S'++[y],[],by simp,by simp,?_⟩;rw [List.pairwise_append];refine ⟨hS,by simp,fun z hz w hw => ?_⟩;rw [List.mem_singleton.1 hw];have h1:=Yq rx ry h;rcases List.mem_append.1 hz with hz | hz
   ·exact le_trans' (AO z hz) ry rx (pS.2.2 z hz y (by simp)) h1
   ·rw [List.mem_singleton.1 hz]; exact h1
theorem YU:∀ (M P S T:List PI) {a i:Nat},a=P.length->i=a+S.length->RVs (S++M)->S.Pairwise le ->
  ∃ S',JM a M.length i (P++(S++(M++T)))=P++(S'++T)/\S'.Perm (S++M)/\S'.Pairwise le
 | [],P,S,T,a,i,_,_,_,hS=>⟨S,rfl,by simp,hS⟩
 | x::M,P,S,T,a,i,ha,hi,rv,hS=>by
  rw [List.length_cons,JM];obtain ⟨S1,S2,h1,h2,h3⟩:=YT S.length P S (M++T) x (a:=a) (j:=i) rfl ha hi (rv.sub fun z hz=>by simp [hz]) (rv x (by simp)) hS;have e:P++(S++(x::M++T))=P++(S++x::(M++T)):=by simp
  rw [e,h1]
  have hp:(S1++x::S2).Perm (S++[x]):=by
   rw [h2];exact List.perm_middle.trans (List.perm_append_singleton x (S1++S2)).symm
  obtain ⟨S',k1,k2,k3⟩:=YU M P (S1++x::S2) T (a:=a) (i:=i+1) ha (by rw [hp.length_eq,List.length_append]; simp; omega) (fun z hz=>by
   rcases List.mem_append.1 hz with hz | hz
   ·have:=hp.mem_iff.1 hz;exact rv z (by simp at this ⊢; rcases this with h | h; exact .inl h; exact .inr (.inl h))
   ·exact rv z (by simp [hz])) h3
  refine ⟨S',by rw [<- k1]; simp,k2.trans ?_,k3⟩;refine (hp.append_right M).trans ?_;simp
def ins (a b:Nat) (ps:List PI):List PI:=JM a (b-(a+1)) (a+1) ps
theorem H6 (P M T:List PI) {a b:Nat} (ha:a=P.length) (hb:b=a+M.length) (rv:RVs M):∃ S',ins a b (P++(M++T))=P++(S'++T)/\S'.Perm M/\S'.Pairwise le:=by
 unfold ins;cases M with
 | nil =>
  refine ⟨[],?_,by simp,by simp⟩;rw [show b-(a+1)=0 by simp at hb; omega];rfl
 | cons x M =>
  obtain ⟨S',h1,h2,h3⟩:=YU M P [x] T (a:=a) (i:=a+1) ha (by simp) (by simpa using rv) (by simp);refine ⟨S',?_,by simpa using h2,h3⟩;rw [show b-(a+1)=M.length by simp at hb; omega];simpa using h1
def TB:Nat->Nat->Nat->Nat->List PI->List PI
 | 0,_,_,_,ps=>ps
 | f+1,a,b,n,ps=>if b<=n then TB f b (b+20) n (ins a b ps) else ins a n ps
def YV (N k:Nat):Nat->Nat->Nat->List PI->List PI
 | 0,_,_,ps=>ps
 | f+1,a,b,ps=>if b<=N then YV N k f b (b+2*k) (VI N a (a+k) b ps) else if a+k<N then VI N a (a+k) N ps else ps
def Re (N:Nat):Nat->Nat->List PI->List PI
 | 0,_,ps=>ps
 | f+1,k,ps=>if k<N then Re N f (k*2) (YV N k (N+1) 0 (2*k) ps) else ps
inductive Fz (k:Nat):List PI->Prop
 | last (l:List PI):l.length<=k->l.Pairwise le->Fz k l
 | cons (A l:List PI):A.length=k->A.Pairwise le->Fz k l->Fz k (A++l)
theorem Fz.all {k:Nat} {l:List PI} (h:Fz k l) (hk:l.length<=k):l.Pairwise le:=by
 cases h with
 | last _ _ h=>exact h
 | cons A l hA h _ =>
  rw [List.length_append] at hk;have:=List.eq_nil_of_length_eq_zero (l:=l) (by omega);subst this;simpa using h
theorem H7:∀ (f:Nat) (P l:List PI) {a b n:Nat},a=P.length->b=a+20->n=a+l.length->l.length<=f->RVs l->∃ l',TB (f+1) a b n (P++l)=P++l'/\l'.Perm l/\Fz 20 l'
 | f,P,l,a,b,n,ha,hb,hn,hf,rv=>by
  rw [TB];by_cases h:b<=n
  ·rw [if_pos h];cases f with
   | zero=>omega
   | succ f =>
    obtain ⟨M,t,rfl,hM⟩:∃ M t,l=M++t/\M.length=20:=⟨l.take 20,l.drop 20,(List.take_append_drop _ l).symm,by rw [List.length_take]; omega⟩
    rw [List.length_append] at hn hf;obtain ⟨S',h1,h2,h3⟩:=H6 P M t ha (b:=b) (by omega) (rv.sub fun z hz=>by simp [hz]);rw [h1];have e:P++(S'++t)=(P++S')++t:=by simp
    rw [e];obtain ⟨l',k1,k2,k3⟩:=H7 f (P++S') t (a:=b) (b:=b+20) (n:=n) (by rw [List.length_append,h2.length_eq]; omega) rfl (by omega) (by omega) (rv.sub fun z hz=>by simp [hz]);refine ⟨S'++l',by rw [k1]; simp,h2.append k2,.cons _ _ (by rw [h2.length_eq]; exact hM) h3 k3⟩
  ·rw [if_neg h];obtain ⟨S',h1,h2,h3⟩:=H6 P l [] ha (b:=n) (by omega) rv;simp only [List.append_nil] at h1;exact ⟨S',h1,h2,.last _ (by rw [h2.length_eq]; omega) h3⟩
theorem Nr (N k:Nat) (hk:0<k):∀ (f:Nat) (P l:List PI) {a b:Nat},a=P.length->b=a+2*k->N=a+l.length->l.length<=f->RVs l->Fz k l->∃ l',YV N k (f+1) a b (P++l)=P++l'/\l'.Perm l/\Fz (2*k) l'
 | f,P,l,a,b,ha,hb,hN,hf,rv,hr=>by
  have hstop:∀ (P l:List PI) (a b f:Nat),a=P.length->b=a+2*k->N=a+l.length->l.length<=k->YV N k (f+1) a b (P++l)=P++l:=fun P l a b f ha hb hN hl=>by
   rw [YV,if_neg (by omega),if_neg (by omega)]
  cases hr with
  | last _ h1 h2=>exact ⟨l,hstop P l a b f ha hb hN h1,List.Perm.refl _,.last _ (by omega) h2⟩
  | cons A l hA pA hr =>
   rw [List.length_append] at hN hf;have rA:RVs A:=rv.sub fun z hz=>by simp [hz]
   have rl:RVs l:=rv.sub fun z hz=>by simp [hz]
   cases hr with
   | last _ h1 h2 =>
    by_cases h0:l.length=0
    ·have:=List.eq_nil_of_length_eq_zero h0;subst this;refine ⟨A,?_,by simp,.last _ (by omega) pA⟩;rw [List.append_nil];exact hstop P A a b f ha hb (by simpa using hN) (by omega)
    ·obtain ⟨S,k1,k2,k3⟩:=WY N (a:=a) (m:=a+k) (b:=N) P A l [] ha (by omega) (by omega) (by omega) (by omega) (by omega) (fun z hz=>by rcases List.mem_append.1 hz with h | h; exact rA z h; exact rl z h) pA h2;simp only [List.append_nil] at k1;rw [YV];by_cases hb':b<=N
     ·rw [if_pos hb',show b=N by omega,k1];refine ⟨S,?_,k2,.last _ (by rw [k2.length_eq,List.length_append]; omega) k3⟩;cases f with
      | zero=>rfl
      | succ f =>
       have:=hstop (P++S) [] N (N+2*k) f (by rw [List.length_append,k2.length_eq,List.length_append]; omega) rfl (by simp) (by simp);simpa using this
     ·rw [if_neg hb',if_pos (by omega),k1];exact ⟨S,rfl,k2,.last _ (by rw [k2.length_eq,List.length_append]; omega) k3⟩
   | cons B l hB pB hr =>
    rw [List.length_append] at hN hf;obtain ⟨S,k1,k2,k3⟩:=WY N (a:=a) (m:=a+k) (b:=b) P A B l ha (by omega) (by omega) (by omega) (by omega) (by omega) (fun z hz=>by rcases List.mem_append.1 hz with h | h; exact rA z h; exact rl z (by simp [h])) pA pB;rw [YV,if_pos (by omega),k1];cases f with
    | zero=>omega
    | succ f =>
     rw [show P++(S++l)=(P++S)++l by simp];obtain ⟨l',j1,j2,j3⟩:=Nr N k hk f (P++S) l (a:=b) (b:=b+2*k) (by rw [List.length_append,k2.length_eq,List.length_append]; omega) rfl (by omega) (by omega) (rl.sub fun z hz=>by simp [hz]) hr;refine ⟨S++l',by rw [j1]; simp,?_,.cons _ _ (by rw [k2.length_eq,List.length_append]; omega) k3 j3⟩;refine (k2.append j2).trans ?_;simp
theorem Pn (N:Nat):∀ (f k:Nat) (l:List PI),0<k->N=l.length->N<=k*2^f->RVs l->Fz k l->∃ l',Re N f k l=l'/\l'.Perm l/\l'.Pairwise le
 | 0,k,l,hk,hN,hf,rv,hr=>⟨l,rfl,List.Perm.refl _,hr.all (by omega)⟩
 | f+1,k,l,hk,hN,hf,rv,hr=>by
  rw [Re];by_cases h:k<N
  ·rw [if_pos h];obtain ⟨l1,h1,h2,h3⟩:=Nr N k hk N [] l (a:=0) (b:=2*k) rfl (by omega) (by omega) (by omega) rv hr;simp only [List.nil_append] at h1;rw [h1];obtain ⟨l2,k1,k2,k3⟩:=Pn N f (k*2) l1 (by omega) (by rw [h2.length_eq]; exact hN) (by rw [Nat.pow_succ] at hf; rw [Nat.mul_assoc,Nat.mul_comm 2]; exact hf) (fun z hz=>rv z (h2.mem_iff.1 hz)) (by rw [Nat.mul_comm]; exact h3);exact ⟨l2,k1,k2.trans h2,k3⟩
  ·rw [if_neg h];exact ⟨l,rfl,List.Perm.refl _,hr.all (by omega)⟩
end
end Go.Proofs.YtheflbaejhlboaaGreatDoor
