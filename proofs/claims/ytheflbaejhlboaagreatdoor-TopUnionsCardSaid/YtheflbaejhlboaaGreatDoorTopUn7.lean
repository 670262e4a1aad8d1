/- A part of the proof of a law of package confluencetop: lemmas, no condition of ours. -/
import Derived.Test.YtheflbaejhlboaaGreatDoorTopUn6
import Derived.Lib.AppendZeros
set_option linter.unusedVariables false
set_option linter.unusedSectionVars false
set_option linter.unusedSimpArgs false
namespace Go.Proofs.YtheflbaejhlboaaGreatDoor
open Go.RowKit
theorem MJ {r q:List Vl} (hr:Zl r=true) (hq:Zl q=true):XX r q=decide (r=q):=by
 unfold XX
 rw [hr,hq,Bool.true_and,Bool.true_and]
 exact decide_eq_decide.2 (QI (ZG hr) (ZG hq))
def WB:List PI→Int
 | []=>0
 | p::l=>p.2.net+WB l
theorem FW (l m:List PI):WB (l++m)=WB l+WB m:=by
 induction l with
 | nil=>simp [WB]
 | cons x l ih=>rw [List.cons_append,WB,WB,ih]; omega
theorem BJ {l:List PI} {q:List Vl} (h:∀ p∈l,p.2.row=q) (r:List Vl):JG (l.map (·.2)) r=if q=r then WB l else 0:=by
 induction l with
 | nil=>simp [JG,WB]
 | cons p l ih =>
  rw [List.map_cons,JG,ih fun x hx=>h x (by simp [hx]),WB,h p (by simp)]
  split <;> simp
theorem BK (X:List PI) : -(ZJ (X.map (·.2)):Int)≤WB X∧WB X≤(ZJ (X.map (·.2)):Int):=by
 induction X with
 | nil=>simp [WB,ZJ]
 | cons p X ih =>
  rw [WB,List.map_cons,ZJ]
  unfold Itm.net
  omega
theorem N0 (qs:List PI) (I k:Nat):ZJ (((qs.drop I).take k).map (·.2))≤ZJ (qs.map (·.2)):=by
 have e:qs=qs.take I++((qs.drop I).take k++(qs.drop I).drop k):=by rw [List.take_append_drop,List.take_append_drop]
 have h:ZJ (qs.map (·.2))=ZJ ((qs.take I).map (·.2))+(ZJ (((qs.drop I).take k).map (·.2))+ZJ (((qs.drop I).drop k).map (·.2))):=by
  rw [← X9,← List.map_append,← X9,← List.map_append,← e]
 omega
theorem FX {qs:List PI} {I J:Nat} {p:PI} (hIJ:I≤J) (hp:qs[J]? = some p):(qs.drop I).take (J+1-I)=(qs.drop I).take (J-I)++[p]:=by
 rw [show J+1-I=(J-I)+1 by omega,List.take_add_one,List.getElem?_drop,show I+(J-I)=J by omega,hp]
 rfl
theorem FY {qs:List PI} {I J:Nat} (hIJ:I≤J):qs.take J=qs.take I++(qs.drop I).take (J-I):=by
 conv=>lhs; rw [show J=I+(J-I) by omega,List.take_add]
theorem Mk {qs:List PI} {f:PI} {I J:Nat} (hs:qs.Pairwise le) (hr:RVs qs) (hf:qs[I]? = some f) (hIJ:I≤J) (hJ:∀ y,qs[J]? = some y→y.2.row≠f.2.row):∀ z∈qs.drop J,Qp f.2.row z.2.row<0:=by
 intro z hz
 obtain ⟨k,hk⟩:=List.getElem?_of_mem hz
 rw [List.getElem?_drop] at hk
 have rf:=hr f (List.mem_of_getElem? hf)
 have rz:=hr z (List.mem_of_getElem? hk)
 obtain ⟨lf,ef⟩:=List.getElem?_eq_some_iff.1 hf
 obtain ⟨lk,ek⟩:=List.getElem?_eq_some_iff.1 hk
 have pw:=List.pairwise_iff_getElem.1 hs
 have key:∀ y,qs[J]? = some y→Qp f.2.row y.2.row<0:=fun y hy=>by
  obtain ⟨ly,ey⟩:=List.getElem?_eq_some_iff.1 hy
  have ry:=hr y (List.mem_of_getElem? hy)
  have hne:=hJ y hy
  have hIJ':I<J:=by
   rcases Nat.lt_or_ge I J with h | h
   ·exact h
   ·have e:I=J:=by omega
    subst e
    rw [hf] at hy
    cases hy
    exact absurd rfl hne
  have h1:=pw I J lf ly hIJ'
  rw [ef,ey] at h1
  unfold le rle at h1
  have h2:Qp f.2.row y.2.row≠0:=fun e=>hne ((QI rf ry).1 e).symm
  omega
 have hJl:J<qs.length:=by omega
 have hy:qs[J]? = some qs[J]:=List.getElem?_eq_getElem hJl
 have ky:=key _ hy
 cases k with
 | zero =>
  rw [Nat.add_zero,hy] at hk
  cases hk
  exact ky
 | succ k =>
  have h1:=pw J (J+(k+1)) hJl lk (by omega)
  rw [ek] at h1
  have ry:=hr _ (List.mem_of_getElem? hy)
  unfold le rle at h1
  by_cases e:Qp qs[J].2.row z.2.row=0
  ·rw [← (QI ry rz).1 e]; exact ky
  ·exact XT rf ry rz ky (by omega)
def Made (w:World) (l:List Itm) (e:Ending) (w':World):Prop :=
 ∃ u S,e = .returned (.tuple #[u,.int .i64 0])∧ZP S∧(∀ r,nf S r=JG l r)∧S.length≤l.length∧Zt (new w) w' u (Zz S)∧Chg (fun _=>False) w w'
set_option maxRecDepth 100000 in
set_option maxHeartbeats 8000000 in
theorem Ml {F:Nat→Prop} {w:World} {v:Value} {l:List Itm} (h:Zt F w v l) (hlen:l.length≤4096) (hr:∀ x∈l,Zl x.row=true) (hw:ZJ l≤1125899906842624) :
  Calls Tryz.prog 170 #[v] w (Made w l):=by
 have C1:=fun W (hc:Chg (fun _=>False) w W)=>T7 (h.Zi hc) (by omega)
 have hv:=h
 obtain ⟨A,cap,rfl,hn,hcap,hat⟩:=h
 have HA:=Lib.hid hat
 have HL:=Lib.hid hlen
 have HR:=Lib.hid hr
 have HW:=Lib.hid hw
 have HC1:=Lib.hid C1
 clear hat hlen hr hw C1 hv
 go_enter Tryz.func170,Tryz.ntmps170
 go_wp2_with fail
 go_loopw [13] (fun i wr=>∃ (I:Nat),I≤l.length∧i = .int .i64 I∧Chg (fun _=>False) w wr) (fun i _=>l.length-(intOf i).toNat)
 case atStart=>exact ⟨0,Nat.zero_le _,rfl,Chg.refl _ _⟩
 case round =>
  obtain ⟨I,hI,rfl,hcw⟩:=hrel
  by_cases hlt:I<l.length
  ·obtain ⟨b,off,rfl,_,hb,hx⟩:=HA.out (by omega)
   obtain ⟨x,hxI⟩:∃ x,l[I]? = some x:=⟨_,List.getElem?_eq_getElem hlt⟩
   obtain ⟨⟨rv,p0,hrow⟩,p1,ha,hbb,_⟩:=hx I x hxI
   have q0:=hcw.cell p0 (fun h=>h)
   have q1:=hcw.cell p1 (fun h=>h)
   have hrr:=HR.out x (List.mem_of_getElem? hxI)
   have hr1:∀ W,Chg (fun _=>False) w W→Calls Tryz.prog 282 #[rv] W fun e w'=>e = .returned (.bool true)∧Chg (fun _=>False) W w':=fun W hc=>by
    have:=Q4 (hrow.Zi hc)
    rwa [hrr] at this
   have hr2:∀ W,Calls Tryz.prog 55 #[.complex .f64 (fl x.a) (fl x.b)] W fun e w'=>e = .returned (.bool true)∧Chg (fun _=>False) W w':=fun W=>Q5 ha hbb W
   obtain ⟨RA,rcap,rfl,hr'⟩:=hrow
   unfold tc at q1 p1
   have hst:=Z5
   clear hxI hx p0 p1 hr' hrr ha hbb
   go_wp2_with fail
   refine (hr1 _ (hcw.trans ((Chg.refl _ wr).alloc _) fun _ _ h=>h)).mono ?_
   rintro _ w2 ⟨rfl,hc2⟩
   have hbk:w2.heap[wr.heap.size]? = some (.cells #[.slice RA x.row.length rcap,.complex .f64 (fl x.a) (fl x.b)] 59 (0,0)):=hc2.heap (heap_alloc_new wr _) fun h=>h
   obtain ⟨k0,k1,_,_⟩:=Lb hbk
   go_wp2_with fail
   refine (hr2 _).mono ?_
   rintro _ w3 ⟨rfl,hc3⟩
   go_wp2_with fail
   go_roundw
   case rel=>exact ⟨I+1,by omega,by go_num,((hcw.trans ((Chg.refl _ wr).alloc _) fun _ _ h=>h).trans hc2 fun _ _ h=>h).trans hc3 fun _ _ h=>h⟩
   case measure=>simp [intOf]; omega
  ·have hge:¬ ((I:Int)<(l.length:Int)):=by omega
   have hcl:=HC1.out _ hcw
   go_wp2_with fail
   refine hcl.mono ?_
   rintro _ w2 ⟨_,rfl,⟨A2,cap2,ps,rfl,hc2,hps,hg,hok⟩,hcw2⟩
   have hcw3:=hcw.trans hcw2 fun _ _ h=>h
   by_cases h0:l.length=0
   ·have e0:l=[]:=List.eq_nil_of_length_eq_zero h0
    have s1:=fun W=>Eb (w:=W) (A:=A2) (c:=cap2) (f:=Ks)
    unfold Ks at s1
    rw [h0]
    go_wp2_with fail
    refine (s1 _).mono ?_
    rintro _ w3 ⟨rfl,hc3⟩
    go_wp2_with fail
    go_loopw [7,6] (fun x y wr=>x = .int .i64 0∧y = .slice none 0 0∧Chg (fun _=>False) w wr) (fun _ _ _=>0)
    case atStart=>exact ⟨rfl,rfl,hcw3.trans hc3 fun _ _ h=>h⟩
    case round =>
     obtain ⟨rfl,rfl,hc4⟩:=hrel
     go_wp2_with fail
     go_ret2
     subst e0
     exact ⟨_,[],rfl,ZP.nil,fun r=>rfl,Nat.le_refl _,Zt.Ws _ _,hc4⟩
   ·obtain ⟨g,rfl,hgw,hArr⟩:=hg (by omega)
    have hpl:ps.length=l.length:=by rw [← hps,List.length_map]
    have hrv:RVs ps:=fun p hp=>ZG (HR.out p.2 (by rw [← hps]; exact List.mem_map_of_mem hp))
    have hL:=HL.out
    have hso:=T6 (cap:=cap2) hArr hpl hc2 (by omega) hok (fun hh=>by have:=hh.2; have:=hcw.size; omega) hrv
    unfold Ks at hso
    have HPS:=Lib.hid hps
    have HOK:=Lib.hid hok
    have HPL:=Lib.hid hpl
    have hgw':w.heap.size≤g:=by have:=hcw.size; omega
    clear hg hArr hpl hrv hok hcl hL hps
    go_wp2_with fail
    refine hso.mono ?_
    rintro _ w3 ⟨rfl,⟨qs,hA3,hperm,hsort⟩,hc3⟩
    have hcw4:Chg (fun _=>False) w w3:=hcw3.trans hc3 fun i hi e=>by omega
    have hq:∀ p∈qs,POk (old wr F) w3 p:=fun p hp=>(HOK.out p (hperm.mem_iff.1 hp)).chg hc3 fun b hb _ e=>by have:=hb.2; omega
    have hqr:∀ p∈qs,Zl p.2.row=true:=fun p hp=>HR.out p.2 (by rw [← HPS.out]; exact List.mem_map_of_mem (hperm.mem_iff.1 hp))
    have hqw:ZJ (qs.map (·.2))≤1125899906842624:=by rw [Ed (hperm.map _),HPS.out]; exact HW.out
    have hqn:∀ r,JG (qs.map (·.2)) r=JG l r:=fun r=>by rw [Ec (hperm.map _),HPS.out]
    have hql:qs.length=l.length:=by rw [hperm.length_eq]; exact HPL.out
    have HQ:=Lib.hid hq
    have HQR:=Lib.hid hqr
    have HQW:=Lib.hid hqw
    have HQN:=Lib.hid hqn
    have HQL:=Lib.hid hql
    have HA3:=Lib.hid hA3
    have HSO:=Lib.hid hsort
    clear hq hqr hqw hqn hql hA3 hsort hperm HOK HPL HPS HA HC1
    obtain ⟨wq,hwq⟩:∃ x,x=wr:=⟨_,rfl⟩
    rw [← hwq] at HQ
    clear hwq hcw hcw2 hcw3 hc3 hso
    go_wp2_with fail
    go_loopw [7,6] (fun x y wr=>∃ (I:Nat) (own:Option Nat) (B:Option Addr) (c:Nat) (os:List PI) (S:List (List Vl×Int)),I≤l.length∧x = .int .i64 I∧y = .slice B S.length c∧Hid (os.map (·.2)=Zz S)∧Hid (QE wr 59 2 own B S.length c (ZC os))∧Hid (∀ g',own=some g'→w3.heap.size≤g')∧Hid (∀ p∈os,POk (fun b=>w3.heap.size≤b∧own≠some b) wr p)∧Hid (ZP S)∧Hid (∀ r,nf S r=JG ((qs.take I).map (·.2)) r)∧Hid (∀ p∈S,∀ z∈qs.drop I,Qp p.1 z.2.row<0)∧Hid (S.length≤I)∧Chg (fun _=>False) w3 wr) (fun x _ _=>l.length-(intOf x).toNat)
    case atStart=>exact ⟨0,none,none,0,[],[],Nat.zero_le _,rfl,rfl,Lib.hid rfl,Lib.hid (QE.Ws _ _ _ _),Lib.hid (fun g h=>by cases h),Lib.hid (fun p h=>by cases h),Lib.hid ZP.nil,Lib.hid (fun r=>rfl),Lib.hid (fun p h=>by cases h),Lib.hid (Nat.le_refl _),Chg.refl _ _⟩
    case round =>
     obtain ⟨I,own,B,c,os,S,hI,rfl,rfl,HM,HO,HN,HP,HZ,HNF,HLT,HSL,hcw⟩:=hrel
     by_cases hlt:I<l.length
     ·obtain ⟨⟨fv,fx⟩,hf⟩:∃ p,qs[I]? = some p:=⟨_,List.getElem?_eq_getElem (by rw [HQL.out]; exact hlt)⟩
      obtain ⟨d0,d1,_,_⟩:=(HA3.out.Zi hcw).cells hf
      have hfo:=HQ.out _ (List.mem_of_getElem? hf)
      have hfr:=HQR.out _ (List.mem_of_getElem? hf)
      simp only at d0 d1 hfo hfr
      obtain ⟨⟨FA,fcap,hfv,_⟩,_⟩:=id hfo
      simp only at hfv
      subst hfv
      have HFO:=Lib.hid hfo
      have HFR:=Lib.hid hfr
      have HF:=Lib.hid hf
      obtain ⟨wp,hwp⟩:∃ x,x=wr:=⟨_,rfl⟩
      subst hwp
      clear hfo hfr hf
      go_wp2_with fail
      go_loopw [7,9] (fun x t wr=>∃ (J:Nat) (sm:Int),I≤J∧J≤l.length∧x = .int .i64 J∧t = .complex .f64 (fl sm.toNat) (fl (-sm).toNat)∧Hid (∀ p∈(qs.drop I).take (J-I),p.2.row=fx.row)∧Hid (sm=WB ((qs.drop I).take (J-I)))∧Chg (fun _=>False) wp wr) (fun x _ _=>l.length-(intOf x).toNat)
      case atStart=>exact ⟨I,0,Nat.le_refl _,hI,rfl,(by rw [show ((0:Int)).toNat=0 from rfl,show (-(0:Int)).toNat=0 from rfl,Xf]),Lib.hid (fun p h=>by simp at h),Lib.hid (by simp [WB]),Chg.refl _ _⟩
      case round =>
       obtain ⟨J,sm,hIJ,hJ,rfl,rfl,HRow,HSm,hcp⟩:=hrel
       have hb1:=BK ((qs.drop I).take (J-I))
       have hb2:=N0 qs I (J-I)
       have hb3:=HQW.out
       rw [← HSm.out] at hb1
       have hsl : -1125899906842624≤sm:=by omega
       have hsu:sm≤1125899906842624:=by omega
       have hcq:Chg (fun _=>False) w3 wr:=hcw.trans hcp fun _ _ h=>h
       clear hb1 hb2 hb3
       by_cases hltJ:J<l.length
       ·obtain ⟨⟨yv,yx⟩,hy⟩:∃ p,qs[J]? = some p:=⟨_,List.getElem?_eq_getElem (by rw [HQL.out]; exact hltJ)⟩
        obtain ⟨e0,e1,_,_⟩:=(HA3.out.Zi hcq).cells hy
        have hyo:=HQ.out _ (List.mem_of_getElem? hy)
        have hyr:=HQR.out _ (List.mem_of_getElem? hy)
        simp only at e0 e1 hyo hyr
        have hsame:∀ W,Chg (fun _=>False) w3 W→Calls Tryz.prog 272 #[yv,.slice FA fx.row.length fcap] W fun e w'=>e = .returned (.bool (decide (yx.row=fx.row)))∧Chg (fun _=>False) W w':=fun W hc=>by
         have:=Ra (hyo.1.Zi hc) (HFO.out.1.Zi hc)
         rwa [MJ hyr HFR.out] at this
        have hadd:∀ W,Calls Tryz.prog 287 #[.complex .f64 (fl sm.toNat) (fl (-sm).toNat),.complex .f64 (fl yx.a) (fl yx.b)] W fun e w'=>e = .returned (Re (sm+yx.net))∧Chg (fun _=>False) W w':=fun W=>by
         have:=F5 (a:=sm.toNat) (b:=(-sm).toNat) (c:=yx.a) (d:=yx.b) (by omega) (by omega) hyo.2.1 hyo.2.2.1 W
         rwa [show ((sm.toNat:Int)-((-sm).toNat:Int))+((yx.a:Int)-(yx.b:Int))=sm+yx.net by unfold Itm.net; omega] at this
        obtain ⟨⟨YA,ycap,hyv,_⟩,_⟩:=hyo
        simp only at hyv
        have HY:=Lib.hid hy
        clear hy hyr
        subst hyv
        by_cases hs:yx.row=fx.row
        ·rw [decide_eq_true hs] at hsame
         have hps2:sm+yx.net=WB ((qs.drop I).take (J+1-I)):=by
          rw [FX hIJ HY.out,FW,← HSm.out]
          simp [WB]
         have hb1:=BK ((qs.drop I).take (J+1-I))
         have hb2:=N0 qs I (J+1-I)
         have hb3:=HQW.out
         rw [← hps2] at hb1
         have hsv:Re (sm+yx.net) = .tuple #[.complex .f64 (fl (sm+yx.net).toNat) (fl (-(sm+yx.net)).toNat),.bool true]:=by
          unfold Re
          rw [if_pos ⟨by omega,by omega⟩]
          rfl
         rw [hsv] at hadd
         have HP2:=Lib.hid hps2
         have HRow2:=Lib.hid (show ∀ p∈(qs.drop I).take (J+1-I),p.2.row=fx.row from fun p hp=>by
          rw [FX hIJ HY.out] at hp
          rcases List.mem_append.1 hp with hp | hp
          ·exact HRow.out p hp
          ·rw [List.mem_singleton.1 hp]; exact hs)
         clear hsv hps2 hb1 hb2 hb3 hs
         obtain ⟨s2,hs2⟩:∃ x,sm+yx.net=x:=⟨_,rfl⟩
         rw [hs2] at hadd HP2
         clear hs2
         go_wp2_with fail
         refine (hsame _ hcq).mono ?_
         rintro _ w5 ⟨rfl,hc5⟩
         have e1:=hc5.cell e1 (fun h=>h)
         go_wp2_with fail
         refine (hadd _).mono ?_
         rintro _ w6 ⟨rfl,hc6⟩
         go_wp2_with fail
         go_roundw
         case rel=>exact ⟨J+1,s2,by omega,by omega,by go_num,rfl,HRow2,HP2,(hcp.trans hc5 fun _ _ h=>h).trans hc6 fun _ _ h=>h⟩
         case measure=>simp [intOf]; omega
        ·rw [decide_eq_false hs] at hsame
         have HNE:=Lib.hid hs
         clear hs
         go_wp2_with fail
         refine (hsame _ hcq).mono ?_
         rintro _ w5 ⟨rfl,hc5⟩
         clear hsame hadd
         have hIJ2:I<J:=(by
          rcases Nat.lt_or_ge I J with h | h
          ·exact h
          ·exfalso
           have e:J=I:=by omega
           have h2:=HY.out
           rw [e,HF.out] at h2
           injection h2 with h2
           injection h2 with h3 h4
           exact HNE.out (by rw [h4]))
         have HG:=Lib.hid (Mk HSO.out (fun p hp=>ZG (HQR.out p hp)) HF.out hIJ fun y hy2=>by rw [HY.out] at hy2; cases hy2; exact HNE.out)
         have HNF2:=Lib.hid (show ∀ r,JG ((qs.take J).map (·.2)) r=nf S r+(if fx.row=r then sm else 0) from fun r=>by rw [FY hIJ,List.map_append,X4,← HNF.out r,BJ HRow.out r,← HSm.out])
         have HLT2:=Lib.hid (show ∀ p∈S,∀ z∈qs.drop J,Qp p.1 z.2.row<0 from fun p hp z hz=>HLT.out p hp z (by rw [show J=I+(J-I) by omega,← List.drop_drop] at hz; exact List.mem_of_mem_drop hz))
         have HSL2:=Lib.hid (show S.length≤J by have:=HSL.out; omega)
         have hcz:Chg (fun _=>False) wp w5:=hcp.trans hc5 fun _ _ h=>h
         have HOz:=Lib.hid (HO.out.chg hcz fun _ _ h=>h)
         have HPz:=Lib.hid (fun p hp=>(HP.out p hp).chg hcz fun _ _ _ h=>h)
         have hcz3:=hcw.trans hcz fun _ _ h=>h
         by_cases hz0:sm=0
         ·have hq0:∀ U,(binOp .neq 57 (.complex .f64 (fl sm.toNat) (fl (-sm).toNat)) (.complex .f64 0 0)).run Tryz.prog U = .ok (.bool false) U:=fun U=>by
           have:=Xk (P:=Tryz.prog) (a:=sm.toNat) (b:=(-sm).toNat) (c:=0) (d:=0) (by omega) (by omega) (by omega) (by omega) 57 U
           rw [Xf] at this
           rw [this,hz0]
           rfl
          have HNF3:=Lib.hid (show ∀ r,nf S r=JG ((qs.take J).map (·.2)) r from fun r=>by rw [HNF2.out r,hz0]; simp)
          clear hz0
          go_wp2_with fail
          go_roundw
          case rel=>exact ⟨J,own,B,c,os,S,hJ,rfl,rfl,HM,HOz,HN,HPz,HZ,HNF3,HLT2,HSL2,hcz3⟩
          case measure=>simp [intOf]; omega
         ·have hq0:∀ U,(binOp .neq 57 (.complex .f64 (fl sm.toNat) (fl (-sm).toNat)) (.complex .f64 0 0)).run Tryz.prog U = .ok (.bool true) U:=fun U=>by
           have:=Xk (P:=Tryz.prog) (a:=sm.toNat) (b:=(-sm).toNat) (c:=0) (d:=0) (by omega) (by omega) (by omega) (by omega) 57 U
           rw [Xf] at this
           rw [this]
           congr 2
           by_cases e:sm.toNat=0
           ·have:(-sm).toNat≠0:=by omega
            simp [e,this]
           ·simp [e]
          have hit:∀ U,Chg (fun _=>False) w3 U→Calls Tryz.prog 54 #[.slice FA fx.row.length fcap,.complex .f64 (fl sm.toNat) (fl (-sm).toNat)] U (Neu U fun u w'=>∃ rv,u = .agg #[rv,.complex .f64 (fl sm.toNat) (fl (-sm).toNat)]∧Zq (new U) w' rv fx.row):=fun U hc =>
           KR (a:=sm.toNat) (b:=(-sm).toNat) (HFO.out.1.Zi hc) HFO.out.2.2.2
          have HB:=Lib.hid HFO.out.2.2.2
          have HZ0:=Lib.hid hz0
          have HBS:=Lib.hid (And.intro hsl hsu)
          clear hz0
          go_wp2_with fail
          refine (hit _ hcz3).mono ?_
          rintro _ w7 ⟨u,rfl,⟨rv,rfl,hrv⟩,hc7⟩
          have hrv':=hrv
          obtain ⟨RA',rcap',rfl,_⟩:=hrv
          have HR7:=Lib.hid hrv'
          clear hrv' hit
          have H1:=Lib.hid (KS w7 (.slice RA' fx.row.length rcap') (.complex .f64 (fl sm.toNat) (fl (-sm).toNat)) 59)
          have HO2:=Lib.hid (HOz.out.chg (hc7.alloc (.cells #[.slice RA' fx.row.length rcap',.complex .f64 (fl sm.toNat) (fl (-sm).toNat)] 59)) fun _ _ h=>h)
          go_wp2_with (at_builtin; refine ZK rfl _ _ 45 45 rfl 59 2 40 Kh own _ S.length c 1 (ZC os) [.slice RA' fx.row.length rcap',.complex .f64 (fl sm.toNat) (fl (-sm).toNat)] _ rfl rfl HO2.out (Kt.slice H1.out) (by simp [Value.oneCell']) (S.length+1) rfl ?_ ?_ ?_)
          ·have:=HL.out; have:=HSL2.out; omega
          ·have:=HL.out; have:=HSL2.out; omega
          ·intro own' B' c' w8 hown hor hchg
           have HO3:=Lib.hid hown
           clear hown
           go_wp2_with fail
           go_roundw
           case rel =>
            have hc8:Chg (fun _=>False) w3 w8:=((hcz3.trans hc7 fun _ _ h=>h).alloc _).trans hchg fun i hi hg=>by have:=HN.out i hg; omega
            have hc9:Chg (fun b=>own=some b) w7 w8:=((Chg.refl _ w7).alloc _).trans hchg fun i hi hg=>hg
            have hsz:=hc7.size
            have hsz3:=hcz3.size
            have hlt3:∀ b,b<w7.heap.size→own≠some b→own'≠some b:=fun b hb hne=>by
             rcases hor with h0 | h0
             ·rw [h0]; exact hne
             ·rw [h0]; simp; omega
            refine ⟨J,own',B',c',os++[(.slice RA' fx.row.length rcap',ZI (fx.row,sm))],S++[(fx.row,sm)],hJ,rfl,(by rw [List.length_append]; rfl),Lib.hid ?_,Lib.hid ?_,Lib.hid fun g' hg' => ?_,Lib.hid fun p hp => ?_,Lib.hid (HZ.out.snoc HFR.out HZ0.out fun p hp=>HLT.out p hp (.slice FA fx.row.length fcap,fx) (by rw [List.mem_iff_getElem?]; exact ⟨0,by rw [List.getElem?_drop,Nat.add_zero]; exact HF.out⟩)),Lib.hid fun r => ?_,Lib.hid fun p hp z hz => ?_,Lib.hid ?_,hc8⟩
            ·rw [List.map_append,HM.out]; simp [Zz]
            ·rw [Qe,List.length_append]; exact HO3.out
            ·rcases hor with h0 | h0
             ·exact HN.out g' (h0▸hg')
             ·rw [h0] at hg'
              simp at hg'
              omega
            ·rcases List.mem_append.1 hp with hp | hp
             ·exact (((HPz.out p hp).mono (G:=fun b=>(w3.heap.size≤b∧own≠some b)∧own'≠some b) fun b hb hlt=>⟨hb,hlt3 b (by omega) hb.2⟩).chg ((hc7.mono (T':=fun b=>own=some b) fun _ _ h=>h.elim).trans hc9 fun _ _ h=>h) fun b hb _ he=>hb.1.2 he).mono fun b hb _=>⟨hb.1.1,hb.2⟩
             ·rw [List.mem_singleton.1 hp]
              refine ⟨?_,by have:=HBS.out; simp only [ZI]; omega,by have:=HBS.out; simp only [ZI]; omega,HB.out⟩
              refine ((HR7.out.mono (G:=fun b=>(w3.heap.size≤b∧own≠some b)∧own'≠some b) fun b hb hlt => ?_).chg hc9 fun b hb _ he=>hb.1.2 he).mono fun b hb _=>⟨hb.1.1,hb.2⟩
              have hb':w5.heap.size≤b:=hb
              have hne:own≠some b:=fun he=>by have:=HOz.out.lt he; omega
              exact ⟨⟨by omega,hne⟩,hlt3 b hlt hne⟩
            ·rw [NZ,HNF2.out r]; simp [nf]
            ·rcases List.mem_append.1 hp with hp | hp
             ·exact HLT2.out p hp z hz
             ·rw [List.mem_singleton.1 hp]; exact HG.out z hz
            ·rw [List.length_append]
             have:=HSL.out
             simp only [List.length_cons,List.length_nil]
             omega
           case measure=>simp [intOf]; omega
       ·have hgeJ:¬ ((J:Int)<(l.length:Int)):=by omega
        have hIJ2:I<J:=by omega
        have HG:=Lib.hid (Mk HSO.out (fun p hp=>ZG (HQR.out p hp)) HF.out hIJ fun y hy2=>by have:=(List.getElem?_eq_some_iff.1 hy2).1; rw [HQL.out] at this; omega)
        have HNF2:=Lib.hid (show ∀ r,JG ((qs.take J).map (·.2)) r=nf S r+(if fx.row=r then sm else 0) from fun r=>by rw [FY hIJ,List.map_append,X4,← HNF.out r,BJ HRow.out r,← HSm.out])
        have HLT2:=Lib.hid (show ∀ p∈S,∀ z∈qs.drop J,Qp p.1 z.2.row<0 from fun p hp z hz=>HLT.out p hp z (by rw [show J=I+(J-I) by omega,← List.drop_drop] at hz; exact List.mem_of_mem_drop hz))
        have HSL2:=Lib.hid (show S.length≤J by have:=HSL.out; omega)
        have hcz:Chg (fun _=>False) wp wr:=hcp
        have HOz:=Lib.hid (HO.out.chg hcz fun _ _ h=>h)
        have HPz:=Lib.hid (fun p hp=>(HP.out p hp).chg hcz fun _ _ _ h=>h)
        have hcz3:=hcw.trans hcz fun _ _ h=>h
        by_cases hz0:sm=0
        ·have hq0:∀ U,(binOp .neq 57 (.complex .f64 (fl sm.toNat) (fl (-sm).toNat)) (.complex .f64 0 0)).run Tryz.prog U = .ok (.bool false) U:=fun U=>by
          have:=Xk (P:=Tryz.prog) (a:=sm.toNat) (b:=(-sm).toNat) (c:=0) (d:=0) (by omega) (by omega) (by omega) (by omega) 57 U
          rw [Xf] at this
          rw [this,hz0]
          rfl
         have HNF3:=Lib.hid (show ∀ r,nf S r=JG ((qs.take J).map (·.2)) r from fun r=>by rw [HNF2.out r,hz0]; simp)
         clear hz0
         go_wp2_with fail
         go_roundw
         case rel=>exact ⟨J,own,B,c,os,S,hJ,rfl,rfl,HM,HOz,HN,HPz,HZ,HNF3,HLT2,HSL2,hcz3⟩
         case measure=>simp [intOf]; omega
        ·have hq0:∀ U,(binOp .neq 57 (.complex .f64 (fl sm.toNat) (fl (-sm).toNat)) (.complex .f64 0 0)).run Tryz.prog U = .ok (.bool true) U:=fun U=>by
          have:=Xk (P:=Tryz.prog) (a:=sm.toNat) (b:=(-sm).toNat) (c:=0) (d:=0) (by omega) (by omega) (by omega) (by omega) 57 U
          rw [Xf] at this
          rw [this]
          congr 2
          by_cases e:sm.toNat=0
          ·have:(-sm).toNat≠0:=by omega
           simp [e,this]
          ·simp [e]
         have hit:∀ U,Chg (fun _=>False) w3 U→Calls Tryz.prog 54 #[.slice FA fx.row.length fcap,.complex .f64 (fl sm.toNat) (fl (-sm).toNat)] U (Neu U fun u w'=>∃ rv,u = .agg #[rv,.complex .f64 (fl sm.toNat) (fl (-sm).toNat)]∧Zq (new U) w' rv fx.row):=fun U hc =>
          KR (a:=sm.toNat) (b:=(-sm).toNat) (HFO.out.1.Zi hc) HFO.out.2.2.2
         have HB:=Lib.hid HFO.out.2.2.2
         have HZ0:=Lib.hid hz0
         have HBS:=Lib.hid (And.intro hsl hsu)
         clear hz0
         go_wp2_with fail
         refine (hit _ hcz3).mono ?_
         rintro _ w7 ⟨u,rfl,⟨rv,rfl,hrv⟩,hc7⟩
         have hrv':=hrv
         obtain ⟨RA',rcap',rfl,_⟩:=hrv
         have HR7:=Lib.hid hrv'
         clear hrv' hit
         have H1:=Lib.hid (KS w7 (.slice RA' fx.row.length rcap') (.complex .f64 (fl sm.toNat) (fl (-sm).toNat)) 59)
         have HO2:=Lib.hid (HOz.out.chg (hc7.alloc (.cells #[.slice RA' fx.row.length rcap',.complex .f64 (fl sm.toNat) (fl (-sm).toNat)] 59)) fun _ _ h=>h)
         go_wp2_with (at_builtin; refine ZK rfl _ _ 45 45 rfl 59 2 40 Kh own _ S.length c 1 (ZC os) [.slice RA' fx.row.length rcap',.complex .f64 (fl sm.toNat) (fl (-sm).toNat)] _ rfl rfl HO2.out (Kt.slice H1.out) (by simp [Value.oneCell']) (S.length+1) rfl ?_ ?_ ?_)
         ·have:=HL.out; have:=HSL2.out; omega
         ·have:=HL.out; have:=HSL2.out; omega
         ·intro own' B' c' w8 hown hor hchg
          have HO3:=Lib.hid hown
          clear hown
          go_wp2_with fail
          go_roundw
          case rel =>
           have hc8:Chg (fun _=>False) w3 w8:=((hcz3.trans hc7 fun _ _ h=>h).alloc _).trans hchg fun i hi hg=>by have:=HN.out i hg; omega
           have hc9:Chg (fun b=>own=some b) w7 w8:=((Chg.refl _ w7).alloc _).trans hchg fun i hi hg=>hg
           have hsz:=hc7.size
           have hsz3:=hcz3.size
           have hlt3:∀ b,b<w7.heap.size→own≠some b→own'≠some b:=fun b hb hne=>by
            rcases hor with h0 | h0
            ·rw [h0]; exact hne
            ·rw [h0]; simp; omega
           refine ⟨J,own',B',c',os++[(.slice RA' fx.row.length rcap',ZI (fx.row,sm))],S++[(fx.row,sm)],hJ,rfl,(by rw [List.length_append]; rfl),Lib.hid ?_,Lib.hid ?_,Lib.hid fun g' hg' => ?_,Lib.hid fun p hp => ?_,Lib.hid (HZ.out.snoc HFR.out HZ0.out fun p hp=>HLT.out p hp (.slice FA fx.row.length fcap,fx) (by rw [List.mem_iff_getElem?]; exact ⟨0,by rw [List.getElem?_drop,Nat.add_zero]; exact HF.out⟩)),Lib.hid fun r => ?_,Lib.hid fun p hp z hz => ?_,Lib.hid ?_,hc8⟩
           ·rw [List.map_append,HM.out]; simp [Zz]
           ·rw [Qe,List.length_append]; exact HO3.out
           ·rcases hor with h0 | h0
            ·exact HN.out g' (h0▸hg')
            ·rw [h0] at hg'
             simp at hg'
             omega
           ·rcases List.mem_append.1 hp with hp | hp
            ·exact (((HPz.out p hp).mono (G:=fun b=>(w3.heap.size≤b∧own≠some b)∧own'≠some b) fun b hb hlt=>⟨hb,hlt3 b (by omega) hb.2⟩).chg ((hc7.mono (T':=fun b=>own=some b) fun _ _ h=>h.elim).trans hc9 fun _ _ h=>h) fun b hb _ he=>hb.1.2 he).mono fun b hb _=>⟨hb.1.1,hb.2⟩
            ·rw [List.mem_singleton.1 hp]
             refine ⟨?_,by have:=HBS.out; simp only [ZI]; omega,by have:=HBS.out; simp only [ZI]; omega,HB.out⟩
             refine ((HR7.out.mono (G:=fun b=>(w3.heap.size≤b∧own≠some b)∧own'≠some b) fun b hb hlt => ?_).chg hc9 fun b hb _ he=>hb.1.2 he).mono fun b hb _=>⟨hb.1.1,hb.2⟩
             have hb':wr.heap.size≤b:=hb
             have hne:own≠some b:=fun he=>by have:=HOz.out.lt he; omega
             exact ⟨⟨by omega,hne⟩,hlt3 b hlt hne⟩
           ·rw [NZ,HNF2.out r]; simp [nf]
           ·rcases List.mem_append.1 hp with hp | hp
            ·exact HLT2.out p hp z hz
            ·rw [List.mem_singleton.1 hp]; exact HG.out z hz
           ·rw [List.length_append]
            have:=HSL.out
            simp only [List.length_cons,List.length_nil]
            omega
          case measure=>simp [intOf]; omega
     ·have hge:¬ ((I:Int)<(l.length:Int)):=by omega
      go_wp2_with fail
      go_ret2
      have e:qs.take I=qs:=List.take_of_length_le (by rw [HQL.out]; omega)
      refine ⟨_,S,rfl,HZ.out,fun r=>by rw [HNF.out r,e,HQN.out r],by have:=HSL.out; omega,?_,hcw4.trans hcw fun _ _ h=>h⟩
      have:=Zt.Rf (F:=new w) (HO.out.cs.mono fun g hg _=>by have:=HN.out g hg; have:=hcw4.size; show w.heap.size≤g; omega) (by rw [← List.length_map (f:=fun p:PI=>p.2),HM.out,ZU]) HO.out.fits HO.out.Kg fun p hp=>(HP.out p hp).mono fun b hb _=>by have:=hb.1; have:=hcw4.size; show w.heap.size≤b; omega
      rwa [HM.out] at this
end Go.Proofs.YtheflbaejhlboaaGreatDoor
namespace Go.Proofs.YtheflbaejhlboaaGreatDoor
open Go.RowKit
set_option maxRecDepth 100000 in
theorem Cr {w:World} {n:Nat} (hn:n≤1000000) :
  Calls Tryz.prog 288 #[.slice none 0 0,.int .i64 (n:Int)] w fun e w'=>∃ own A cap,e = .returned (.slice A 0 cap)∧QE w' 59 2 own A 0 cap []∧(∀ g,own=some g→w.heap.size≤g)∧Chg (fun _=>False) w w':=by
 have HN:=Lib.hid hn
 have hw:IntKind.i64.wrap (n:Int)=(n:Int):=IntWalk.i64_in _ (by omega)
 clear hn
 rcases Nat.eq_zero_or_pos n with h0 | h0
 ·subst h0
  go_enter Tryz.func288,Tryz.ntmps288
  go_wp2_with fail
  go_ret
  exact ⟨none,none,0,rfl,QE.Ws _ _ _ _,fun g h=>(by cases h),Chg.refl _ _⟩
 ·obtain ⟨i,hi,hz,hs,hb⟩:=info_parts (P:=Tryz.prog) (e:=59) (z := .agg #[.slice none 0 0,.complex .f64 0 0]) (size:=2) (bytes:=40) (by kernel_rfl)
  have hN:=HN.out
  have happ:=Lib.run_append_nil_zeros (P:=Tryz.prog) w 45 3 45 59 i (.agg #[.slice none 0 0,.complex .f64 0 0]) .i64 .i64 Tryz.underlying45 (by kernel_rfl) hi hz n h0 (by omega) (by omega) (by rw [hb]; omega)
  have hge:=grownCap_ge w n 0 59
  have hcm:=grownCap_le_maxLen w n 0 59 (by simp only [maxLen]; omega)
  obtain ⟨gc,hgc⟩:∃ x,grownCap w n 0 59=x:=⟨_,rfl⟩
  rw [hgc] at happ hge hcm
  have HAP:=Lib.hid happ
  have HCM:=Lib.hid hcm
  clear happ hcm hN hgc
  go_enter Tryz.func288,Tryz.ntmps288
  go_wp2_with (at_builtin; refine Lib.wpList_append_run _ rfl _ _ _ _ rfl _ _ rfl rfl _ _ HAP.out ?_)
  go_ret
  refine ⟨some w.heap.size,_,_,rfl,⟨rfl,Nat.zero_le _,.inr ⟨w.heap.size,_,rfl,rfl,heap_alloc_new w _,?_,HCM.out,by simp⟩⟩,fun g hg=>by injection hg with hg; omega,((Chg.refl _ w).alloc _).drew⟩
  simp only [Array.size_append,size_zeroCells]
  show gc*2≤n*2+(gc-n)*2
  omega
def ZgS (F G:Nat→Prop) (w:World) (l m:List Itm) (u:Value) (w':World):Prop :=
 Zt (fun b=>new w b∨(F b∨G b)∧b<w.heap.size) w' u (l++m)
set_option maxHeartbeats 4000000 in
set_option maxRecDepth 100000 in
theorem Hu {F G:Nat→Prop} {w:World} {B:Nat} {va vb:Value} {l m:List Itm} (hB:w.heap[B]? = some (.cells #[va,vb] 45 (0,0))) (hl:Zt F w va l) (hm:Zt G w vb m) (h1:l.length≤4096) (h2:m.length≤4096) :
  Calls Tryz.prog 171 #[.slice (some ⟨B,0,none⟩) 2 2] w (Neu w (ZgS F G w l m)):=by
 obtain ⟨A1,c1,ps,rfl,l1,l2,hps,hcs,hpo⟩:=hl.Er
 obtain ⟨A2,c2,qs,rfl,m1,m2,hqs,hds,hqo⟩:=hm.Er
 have hpl:ps.length=l.length:=by rw [← hps,List.length_map]
 have hql:qs.length=m.length:=by rw [← hqs,List.length_map]
 obtain ⟨k0,k1,_,_⟩:=Lb hB
 have j0:=k0
 have j1:=k1
 have hg:=fun W (n:Nat) (h:n≤1000000)=>Cr (w:=W) h
 have HG:=Lib.hid hg
 have HB:=Lib.hid hB
 have HPS:=Lib.hid hps
 have HQS:=Lib.hid hqs
 have HCS:=Lib.hid hcs
 have HDS:=Lib.hid hds
 have HPO:=Lib.hid (fun p hp=>(hpo p hp).mono (G:=fun b=>new w b∨(F b∨G b)∧b<w.heap.size) fun b hb hlt => .inr ⟨.inl hb,hlt⟩)
 have HQO:=Lib.hid (fun p hp=>(hqo p hp).mono (G:=fun b=>new w b∨(F b∨G b)∧b<w.heap.size) fun b hb hlt => .inr ⟨.inr hb,hlt⟩)
 have HP1:=Lib.hid (Yc hpo)
 have HQ1:=Lib.hid (Yc hqo)
 obtain ⟨L,hL⟩:∃ x,l.length=x:=⟨_,rfl⟩
 obtain ⟨M,hM⟩:∃ x,m.length=x:=⟨_,rfl⟩
 rw [hL] at HCS h1 l1 hpl k0 j0
 rw [hM] at HDS h2 m1 hql k1 j1
 have HPL:=Lib.hid hpl
 have HQL:=Lib.hid hql
 have H1:=Lib.hid h1
 have H2:=Lib.hid h2
 have HLL:=Lib.hid hL
 have HMM:=Lib.hid hM
 have v1:IntKind.i64.wrap (L:Int)=(L:Int):=IntWalk.i64_in _ (by omega)
 have v2:IntKind.i64.wrap ((L:Int)+(M:Int))=((L+M:Nat):Int):=by rw [show (L:Int)+(M:Int)=((L+M:Nat):Int) by omega]; exact IntWalk.i64_in _ (by omega)
 obtain ⟨LM,hLM⟩:∃ x,L+M=x:=⟨_,rfl⟩
 rw [hLM] at v2
 have v3:¬ ((LM:Int)<0):=by omega
 have v4:¬ ((L:Int)<0):=by omega
 have HLM:=Lib.hid hLM
 clear hps hqs hcs hds hpo hqo hpl hql h1 h2 hB hl hm hg hL hM hLM
 go_enter Tryz.func171,Tryz.ntmps171
 go_wp2_with fail
 go_loopw [11,3] (fun i s wr=>Chg (fun _=>False) w wr∧((i = .int .i64 0∧s = .int .i64 0)∨(i = .int .i64 1∧s = .int .i64 L)∨(i = .int .i64 2∧s = .int .i64 LM))) (fun i _ _=>2-(intOf i).toNat)
 case atStart=>exact ⟨Chg.refl _ _,.inl ⟨rfl,rfl⟩⟩
 case round =>
  obtain ⟨hc0,⟨rfl,rfl⟩ | ⟨rfl,rfl⟩ | ⟨rfl,rfl⟩⟩:=hrel
  all_goals
   have k0:=hc0.cell k0 (fun h=>h)
   have k1:=hc0.cell k1 (fun h=>h)
  ·go_wp2_with fail
   go_roundw
   case rel=>exact ⟨hc0,.inr (.inl ⟨rfl,rfl⟩)⟩
   case measure=>simp [intOf]
  ·go_wp2_with fail
   go_roundw
   case rel=>exact ⟨hc0,.inr (.inr ⟨rfl,rfl⟩)⟩
   case measure=>simp [intOf]
  ·have hgl:=HG.out wr LM (by have:=H1.out; have:=H2.out; have:=HLM.out; omega)
   go_wp2_with fail
   refine hgl.mono ?_
   rintro _ w1 ⟨own,A,cap,rfl,hown,hnew,hc1⟩
   have HO:=Lib.hid hown
   have HN:=Lib.hid (fun g hg=>Nat.le_trans hc0.size (hnew g hg))
   have hcN:=hc0.trans hc1 fun _ _ h=>h
   clear hown hnew hgl
   obtain ⟨wp,hwp⟩:∃ x,x=wr:=⟨_,rfl⟩
   subst hwp
   go_wp2_with fail
   go_loopw [27,6] (fun i s wr=>∃ (own:Option Nat) (A:Option Addr) (cap:Nat),((i = .int .i64 0∧s = .slice A 0 cap∧Hid (QE wr 59 2 own A 0 cap []))∨(i = .int .i64 1∧s = .slice A L cap∧Hid (QE wr 59 2 own A L cap (ZC ps)))∨(i = .int .i64 2∧s = .slice A LM cap∧Hid (QE wr 59 2 own A LM cap (ZC ps++ZC qs))))∧Hid (∀ g,own=some g→w.heap.size≤g)∧Chg (fun _=>False) w wr) (fun i _ _=>2-(intOf i).toNat)
   case atStart=>exact ⟨own,A,cap,.inl ⟨rfl,rfl,HO⟩,HN,hcN⟩
   case round =>
    clear HO HN hc1 hcN
    obtain ⟨own,A,cap,hor,HN,hcw⟩:=hrel
    have k0:=hcw.cell j0 (fun h=>h)
    have k1:=hcw.cell j1 (fun h=>h)
    rcases hor with ⟨rfl,rfl,HO⟩ | ⟨rfl,rfl,HO⟩ | ⟨rfl,rfl,HO⟩
    ·have HC:=Lib.hid (HCS.out.chg hcw fun _ _ _ h=>h)
     go_wp2_with (at_builtin; refine ZK rfl _ _ 45 45 rfl 59 2 40 Kh own _ 0 cap L [] (ZC ps) _ rfl rfl HO.out (Kt.slice HC.out) HP1.out L ?_ ?_ ?_ ?_)
     ·exact Nat.zero_add _
     ·have:=H1.out; omega
     ·have:=H1.out; omega
     ·intro own' A' cap' w2 hown hor hchg
      have HO2:=Lib.hid hown
      clear hown
      go_wp2_with fail
      go_roundw
      case rel =>
       refine ⟨own',A',cap',.inr (.inl ⟨rfl,rfl,HO2⟩),Lib.hid fun g hg => ?_,hcw.trans hchg fun i hi hg=>by have:=HN.out i hg; omega⟩
       rcases hor with h0 | h0
       ·exact HN.out g (h0▸hg)
       ·rw [h0] at hg; injection hg with hg; have:=hcw.size; omega
      case measure=>simp [intOf]
    ·have HC:=Lib.hid (HDS.out.chg hcw fun _ _ _ h=>h)
     go_wp2_with (at_builtin; refine ZK rfl _ _ 45 45 rfl 59 2 40 Kh own _ L cap M (ZC ps) (ZC qs) _ rfl rfl HO.out (Kt.slice HC.out) HQ1.out LM ?_ ?_ ?_ ?_)
     ·exact HLM.out
     ·have:=H1.out; have:=H2.out; have:=HLM.out; omega
     ·have:=H1.out; have:=H2.out; have:=HLM.out; omega
     ·intro own' A' cap' w2 hown hor hchg
      have HO2:=Lib.hid hown
      clear hown
      go_wp2_with fail
      go_roundw
      case rel =>
       refine ⟨own',A',cap',.inr (.inr ⟨rfl,rfl,HO2⟩),Lib.hid fun g hg => ?_,hcw.trans hchg fun i hi hg=>by have:=HN.out i hg; omega⟩
       rcases hor with h0 | h0
       ·exact HN.out g (h0▸hg)
       ·rw [h0] at hg; injection hg with hg; have:=hcw.size; omega
      case measure=>simp [intOf]
    ·go_wp2_with fail
     go_ret
     refine ⟨_,rfl,?_,hcw⟩
     have he:ZC ps++ZC qs=ZC (ps++qs):=by simp [ZC]
     have hO:=HO.out
     rw [he] at hO
     have hs:=Zt.Rf (F:=fun b=>new w b∨(F b∨G b)∧b<w.heap.size) (hO.cs.mono fun g hg _ => .inl (HN.out g hg)) (by rw [List.length_append,HPL.out,HQL.out]; exact HLM.out.symm) hO.fits hO.Kg fun p hp=>by
      rcases List.mem_append.1 hp with hp | hp
      ·exact (HPO.out p hp).chg hcw fun _ _ _ h=>h
      ·exact (HQO.out p hp).chg hcw fun _ _ _ h=>h
     rw [List.map_append,HPS.out,HQS.out] at hs
     exact hs
theorem P5 {F G:Nat→Prop} {w:World} {va vb:Value} {l m:List Itm} (hl:Zt F w va l) (hm:Zt G w vb m) (h1:l.length≤2048) (h2:m.length≤2048) (r1:∀ x∈l,Zl x.row=true) (r2:∀ x∈m,Zl x.row=true) (hw:ZJ l+ZJ m≤1125899906842624) :
  Calls Tryz.prog 112 #[va,vb] w (Made w (l++m)):=by
 have hd:Chg (fun _=>False) w (w.alloc (.cells #[va,vb] 45)):=(Chg.refl _ w).alloc _
 have hc:=Hu (heap_alloc_new w (.cells #[va,vb] 45)) (hl.Zi hd) (hm.Zi hd) (by omega) (by omega)
 obtain ⟨A1,c1,rfl,_⟩:=hl
 obtain ⟨A2,c2,rfl,_⟩:=hm
 have HM:=Lib.hid (fun W u (h:Zt (fun b=>new (w.alloc (.cells #[.slice A1 l.length c1,.slice A2 m.length c2] 45)) b∨(F b∨G b)∧b<(w.alloc (.cells #[.slice A1 l.length c1,.slice A2 m.length c2] 45)).heap.size) W u (l++m))=>Ml h (by rw [List.length_append]; omega) (fun x hx=>by rcases List.mem_append.1 hx with hx | hx; exact r1 x hx; exact r2 x hx) (by rw [X9]; exact hw))
 clear h1 h2 r1 r2 hw
 go_enter Tryz.func112,Tryz.ntmps112
 go_wp2_with fail
 refine hc.mono ?_
 rintro _ w1 ⟨u,rfl,hu,hc1⟩
 have hmk:=HM.out w1 u hu
 clear hu hc HM
 go_wp2_with fail
 refine hmk.mono ?_
 rintro _ w2 ⟨u2,S,rfl,hz,hnf,hsl,hset,hc2⟩
 go_wp2_with fail
 go_ret2
 have hcc:=(hd.trans hc1 fun _ _ h=>h)
 exact ⟨u2,S,rfl,hz,hnf,hsl,hset.mono fun b hb _=>by have h:w1.heap.size≤b:=hb; have:=hcc.size; show w.heap.size≤b; omega,hcc.trans hc2 fun _ _ h=>h⟩
end Go.Proofs.YtheflbaejhlboaaGreatDoor
namespace Go.Proofs.YtheflbaejhlboaaGreatDoor
open Go.RowKit
def Xq (S:List (List Vl×Int)):List (List Vl×Int):=S.map fun p=>(p.1,-p.2)
theorem Mm (r:List Vl) (n:Int):ZI (r,-n)=⟨r,(-n).toNat,n.toNat⟩:=by unfold ZI; simp
set_option maxHeartbeats 4000000 in
set_option maxRecDepth 100000 in
theorem Ft {F:Nat→Prop} {w:World} {v:Value} {l:List (List Vl×Int)} (h:Zt F w v (Zz l)) (hz:ZR l) (hlen:l.length≤4096) :
  Calls Tryz.prog 113 #[v] w (Neu w fun u w'=>Zt (new w) w' u (Zz (Xq l))):=by
 have hr:=XA h hz
 obtain ⟨A,cap,rfl,hn,hcap,hat⟩:=h
 rw [ZU] at hn hat hr ⊢
 have HA:=Lib.hid hat
 have HL:=Lib.hid hlen
 have HZ:=Lib.hid hz
 clear hat hlen hz
 go_enter Tryz.func113,Tryz.ntmps113
 go_wp2_with fail
 refine hr.mono ?_
 rintro _ w1 ⟨rfl,hc1⟩
 clear hr
 go_wp2_with fail
 go_loopw [11,3] (fun i s wr=>∃ (I:Nat) (own:Option Nat) (B:Option Addr) (c:Nat) (ps:List PI),I≤l.length∧i = .int .i64 I∧s = .slice B I c∧Hid (ps.map (·.2)=Zz (Xq (l.take I)))∧Hid (QE wr 59 2 own B I c (ZC ps))∧Hid (∀ g,own=some g→w.heap.size≤g)∧Hid (∀ p∈ps,POk (fun b=>w.heap.size≤b∧own≠some b) wr p)∧Chg (fun _=>False) w wr) (fun i _ _=>l.length-(intOf i).toNat)
 case atStart=>exact ⟨0,none,none,0,[],Nat.zero_le _,rfl,rfl,Lib.hid (by simp [Xq,Zz]),Lib.hid (QE.Ws _ _ _ _),Lib.hid (fun g h=>by cases h),Lib.hid (fun p h=>by cases h),hc1⟩
 case round =>
  obtain ⟨I,own,B,c,ps,hI,rfl,rfl,HM,HO,HN,HP,hcw⟩:=hrel
  by_cases hlt:I<l.length
  ·obtain ⟨b,off,rfl,_,hb,hx⟩:=HA.out (by omega)
   obtain ⟨⟨r,n⟩,hxI⟩:∃ x,l[I]? = some x:=⟨_,List.getElem?_eq_getElem hlt⟩
   obtain ⟨⟨rv,p0,hrow⟩,p1,_,_,hrl⟩:=hx I (ZI (r,n)) (PT hxI)
   simp only [ZI] at hrow p1 hrl
   obtain ⟨hn0,hnl,hnu⟩:=HZ.out.net _ (List.mem_of_getElem? hxI)
   simp only at hn0 hnl hnu
   have q0:=hcw.cell p0 (fun h=>h)
   have q1:=hcw.cell p1 (fun h=>h)
   have hit:∀ W,Chg (fun _=>False) w W→Calls Tryz.prog 54 #[rv,.complex .f64 (fl (-n).toNat) (fl n.toNat)] W (Neu W fun u w'=>∃ rv,u = .agg #[rv,.complex .f64 (fl (-n).toNat) (fl n.toNat)]∧Zq (new W) w' rv r):=fun W hc=>KR (a:=(-n).toNat) (b:=n.toNat) (hrow.Zi hc) hrl
   have hfl:∀ W,Calls Tryz.prog 173 #[.complex .f64 (fl n.toNat) (fl (-n).toNat)] W fun e w'=>e = .returned (.complex .f64 (fl (-n).toNat) (fl n.toNat))∧Chg (fun _=>False) W w':=fun W=>H4 (by omega) (by omega) W
   obtain ⟨RA,rcap,rfl,_⟩:=hrow
   unfold tc at q1 p1
   have hst:=Z5
   have HX:=Lib.hid hxI
   have HB:=Lib.hid (And.intro hnl (And.intro hnu hrl))
   clear hxI hx p0 p1 hrl
   go_wp2_with fail
   have hcd:Chg (fun _=>False) w ((wr.alloc (.cells #[.slice RA r.length rcap,.complex .f64 (fl n.toNat) (fl (-n).toNat)] 59)).drew):=(hcw.alloc _).drew
   have c0d:((wr.alloc (.cells #[.slice RA r.length rcap,.complex .f64 (fl n.toNat) (fl (-n).toNat)] 59)).drew).cell? ⟨wr.heap.size,0,none⟩=some (.slice RA r.length rcap):=by go_simp
   have c1d:((wr.alloc (.cells #[.slice RA r.length rcap,.complex .f64 (fl n.toNat) (fl (-n).toNat)] 59)).drew).cell? ⟨wr.heap.size,1,none⟩=some (.complex .f64 (fl n.toNat) (fl (-n).toNat)):=by go_simp
   refine Zm [2,4] (S:=fun wx=>wx.cell? ⟨wr.heap.size,0,none⟩=some (.slice RA r.length rcap)∧wx.cell? ⟨wr.heap.size,1,none⟩=some (.complex .f64 (fl n.toNat) (fl (-n).toNat))) (by kernel_rfl) ⟨c0d,c1d⟩ (fun hHeld => ?_)
   refine Zb (i:=0) (some 15) (v := ?_) rfl rfl (by kernel_rfl) (by kernel_rfl) (by kernel_rfl) (fun _ _ _ h=>h) (Or.inl ⟨by rfl,?_⟩) ?_
   rotate_left
   ·(intro wx hSw; clear hSw; go_simp; try (with_reducible rfl))
   try simp only [Act.put,List.setIfInBounds_toArray,List.set_cons_zero,List.set_cons_succ]
   refine Zb (i:=1) (some 16) (v := ?_) rfl rfl (by kernel_rfl) (by kernel_rfl) (by kernel_rfl) (fun _ _ _ h=>h) (Or.inl ⟨by rfl,?_⟩) ?_
   rotate_left
   ·(intro wx hSw; clear hSw; go_simp; try (with_reducible rfl))
   try simp only [Act.put,List.setIfInBounds_toArray,List.set_cons_zero,List.set_cons_succ]
   refine Zp (i:=2) (some 17) (v := ?_) (by decide) rfl rfl (by kernel_rfl) (by kernel_rfl) (by kernel_rfl) (fun _ _ _ h=>h) (Or.inl ⟨by rfl,?_⟩) (by assumption) ?_
   rotate_left
   ·(intro wx hSw; go_simp; try (with_reducible rfl))
   try simp only [Act.put,List.setIfInBounds_toArray,List.set_cons_zero,List.set_cons_succ]
   refine Zb (i:=3) (some 18) (v := ?_) rfl rfl (by kernel_rfl) (by kernel_rfl) (by kernel_rfl) (fun _ _ _ h=>h) (Or.inl ⟨by rfl,?_⟩) ?_
   rotate_left
   ·(intro wx hSw; clear hSw; go_simp; try (with_reducible rfl))
   try simp only [Act.put,List.setIfInBounds_toArray,List.set_cons_zero,List.set_cons_succ]
   refine Zp (i:=4) (some 19) (v := ?_) (by decide) rfl rfl (by kernel_rfl) (by kernel_rfl) (by kernel_rfl) (fun _ _ _ h=>h) (Or.inl ⟨by rfl,?_⟩) (by assumption) ?_
   rotate_left
   ·(intro wx hSw; go_simp; try (with_reducible rfl))
   try simp only [Act.put,List.setIfInBounds_toArray,List.set_cons_zero,List.set_cons_succ]
   refine Zj (rs:=[5]) (by kernel_rfl) (by simp) ?_
   refine Zf.cons rfl (fun K hK => ?_) Zf.nil
   go_simp
   refine (hfl _).mono ?_
   rintro _ wA ⟨rfl,hA⟩
   have c0A:=hA.cell c0d (fun h=>h)
   have c1A:=hA.cell c1d (fun h=>h)
   have hcA:=hcd.trans hA fun _ _ h=>h
   go_wp2_with fail
   refine hK.out _ _ ?_ ?_
   ·(intro _; exact ⟨c0A,c1A⟩)
   clear hK K
   try simp only [Act.put,List.setIfInBounds_toArray,List.set_cons_zero,List.set_cons_succ]
   refine Zj (rs:=[6]) (by kernel_rfl) (by simp) ?_
   refine Zf.cons rfl (fun K hK => ?_) Zf.nil
   go_simp
   refine (hit _ hcA).mono ?_
   rintro _ wB ⟨u,rfl,⟨rv,rfl,hrv⟩,hB⟩
   have hrv2:=hrv
   obtain ⟨RA',rcap',rfl,_⟩:=hrv
   have HR:=Lib.hid hrv2
   clear hrv2 hit
   have c0B:=hB.cell c0A (fun h=>h)
   have c1B:=hB.cell c1A (fun h=>h)
   have hcB:=hcA.trans hB fun _ _ h=>h
   go_wp2_with fail
   refine hK.out _ _ ?_ ?_
   ·(intro _; exact ⟨c0B,c1B⟩)
   clear hK K
   try simp only [Act.put,List.setIfInBounds_toArray,List.set_cons_zero,List.set_cons_succ]
   refine Zj (rs:=[7]) (by kernel_rfl) (by simp) ?_
   refine Zf.cons rfl (fun K hK => ?_) Zf.nil
   go_simp
   have c0C:(wB.alloc (.cells #[.slice RA' r.length rcap',.complex .f64 (fl (-n).toNat) (fl n.toNat)] 59)).cell? ⟨wr.heap.size,0,none⟩=some (.slice RA r.length rcap):=((Chg.refl (fun _=>False) wB).alloc _).cell c0B (fun h=>h)
   have c1C:(wB.alloc (.cells #[.slice RA' r.length rcap',.complex .f64 (fl (-n).toNat) (fl n.toNat)] 59)).cell? ⟨wr.heap.size,1,none⟩=some (.complex .f64 (fl n.toNat) (fl (-n).toNat)):=((Chg.refl (fun _=>False) wB).alloc _).cell c1B (fun h=>h)
   refine hK.out _ _ ?_ ?_
   ·(intro _; exact ⟨c0C,c1C⟩)
   clear hK K
   try simp only [Act.put,List.setIfInBounds_toArray,List.set_cons_zero,List.set_cons_succ]
   refine Zj (rs:=[8]) (by kernel_rfl) (by simp) ?_
   refine Zf.cons rfl (fun K hK => ?_) Zf.nil
   have H1:=Lib.hid (KS wB (.slice RA' r.length rcap') (.complex .f64 (fl (-n).toNat) (fl n.toNat)) 59)
   have HO2:=Lib.hid (HO.out.chg (((((Chg.refl (fun _=>False) wr).alloc (.cells #[.slice RA r.length rcap,.complex .f64 (fl n.toNat) (fl (-n).toNat)] 59)).drew.trans hA fun _ _ h=>h).trans hB fun _ _ h=>h).alloc (.cells #[.slice RA' r.length rcap',.complex .f64 (fl (-n).toNat) (fl n.toNat)] 59)) fun _ _ h=>h)
   refine Xw rfl _ _ 45 45 rfl 59 2 40 Kh own _ I c 1 (ZC ps) [.slice RA' r.length rcap',.complex .f64 (fl (-n).toNat) (fl n.toNat)] _ rfl rfl HO2.out (Kt.slice H1.out) (by simp [Value.oneCell']) (I+1) rfl ?_ ?_ ?_
   ·have:=HL.out; omega
   ·have:=HL.out; omega
   intro own' B' c' w2 hown hor hchg
   have HO3:=Lib.hid hown
   clear hown
   have hnr:∀ b,own=some b→b≠wr.heap.size:=fun b hb=>by have:=HO.out.lt hb; omega
   have c0D:=hchg.cell c0C (fun h=>hnr _ h rfl)
   have c1D:=hchg.cell c1C (fun h=>hnr _ h rfl)
   refine hK.out _ _ ?_ ?_
   ·(intro _; exact ⟨c0D,c1D⟩)
   clear hK K
   try simp only [Act.put,List.setIfInBounds_toArray,List.set_cons_zero,List.set_cons_succ]
   refine Zb (i:=9) (some 3) (v := ?_) rfl rfl (by kernel_rfl) (by kernel_rfl) (by kernel_rfl) (fun _ _ _ h=>h) (Or.inl ⟨by rfl,?_⟩) ?_
   rotate_left
   ·(intro wx hSw; clear hSw; go_simp; try (with_reducible rfl))
   try simp only [Act.put,List.setIfInBounds_toArray,List.set_cons_zero,List.set_cons_succ]
   refine Zw (by kernel_rfl) ?_ _
   go_wp2_with fail
   go_roundw
   case rel =>
    have hcr:Chg (fun _=>False) wr wB:=(((Chg.refl (fun _=>False) wr).alloc (.cells #[.slice RA r.length rcap,.complex .f64 (fl n.toNat) (fl (-n).toNat)] 59)).drew.trans hA fun _ _ h=>h).trans hB fun _ _ h=>h
    have hcw4:Chg (fun _=>False) w w2:=(hcB.alloc _).trans hchg fun i hi hg=>by have:=HN.out i hg; omega
    have hcw5:Chg (fun b=>own=some b) wB w2:=((Chg.refl _ wB).alloc _).trans hchg fun i hi hg=>hg
    refine ⟨I+1,own',B',c',ps++[(.slice RA' r.length rcap',ZI (r,-n))],by omega,by go_num,rfl,Lib.hid ?_,Lib.hid (by rw [Qe,Mm]; exact HO3.out),Lib.hid fun g hg => ?_,Lib.hid fun p hp => ?_,hcw4⟩
    ·rw [List.map_append,HM.out,List.take_add_one,HX.out]; simp [Xq,Zz]
    ·rcases hor with h0 | h0
     ·exact HN.out g (h0▸hg)
     ·rw [h0] at hg
      have:=hcB.size
      simp at hg
      omega
    ·have hlt3:∀ b,b<wB.heap.size→own≠some b→own'≠some b:=fun b hb hne=>by
      rcases hor with h0 | h0
      ·rw [h0]; exact hne
      ·rw [h0]; simp; omega
     have hsz:=hcw.size
     have hsz3:=hcr.size
     rcases List.mem_append.1 hp with hp | hp
     ·exact (((HP.out p hp).mono (G:=fun b=>(w.heap.size≤b∧own≠some b)∧own'≠some b) fun b hb hlt=>⟨hb,hlt3 b (by omega) hb.2⟩).chg ((hcr.mono (T':=fun b=>own=some b) fun _ _ h=>h.elim).trans hcw5 fun _ _ h=>h) fun b hb _ he=>hb.1.2 he).mono fun b hb _=>⟨hb.1.1,hb.2⟩
     ·rw [List.mem_singleton.1 hp,Mm]
      have hHB:=HB.out
      refine ⟨?_,by simp; omega,by simp; omega,hHB.2.2⟩
      refine ((HR.out.mono (G:=fun b=>(w.heap.size≤b∧own≠some b)∧own'≠some b) fun b hb hlt => ?_).chg hcw5 fun b hb _ he=>hb.1.2 he).mono fun b hb _=>⟨hb.1.1,hb.2⟩
      have hszA:wr.heap.size≤wA.heap.size:=by have:=hA.size; simp at this; omega
      have hb':wA.heap.size≤b:=by simpa [new] using hb
      have hne:own≠some b:=fun he=>by have:=HO.out.lt he; omega
      exact ⟨⟨by omega,hne⟩,hlt3 b hlt hne⟩
   case measure=>simp [intOf]; omega
  ·have hge:¬ ((I:Int)<(l.length:Int)):=by omega
   go_wp2_with fail
   go_ret
   have e:I=l.length:=by omega
   have hm:=HM.out
   rw [e,List.take_length] at hm
   refine ⟨_,rfl,hm▸Zt.Rf (HO.out.cs.mono fun g hg _=>HN.out g hg) (by rw [← List.length_map (f:=fun p:PI=>p.2),hm,ZU]; simp [Xq]; exact e) HO.out.fits HO.out.Kg fun p hp=>(HP.out p hp).mono fun b hb _=>hb.1,hcw⟩
end Go.Proofs.YtheflbaejhlboaaGreatDoor
namespace Go.Proofs.YtheflbaejhlboaaGreatDoor
open Go.RowKit
def Vb (w:World) (v:Value) (ks:List Int):Prop :=
 ∃ A cap,v = .slice A ks.length cap∧(0<ks.length→∃ b off,A=some ⟨b,off,none⟩∧∀ j k,ks[j]? = some k→w.cell? ⟨b,off+j*2+1,none⟩=some (.int .i64 k))
theorem Vb.Zi {w w':World} {v:Value} {ks:List Int} (h:Vb w v ks) (hc:Chg (fun _=>False) w w'):Vb w' v ks:=by
 obtain ⟨A,cap,rfl,h1⟩:=h
 refine ⟨A,cap,rfl,fun h0 => ?_⟩
 obtain ⟨b,off,rfl,h2⟩:=h1 h0
 exact ⟨b,off,rfl,fun j k hk=>hc.cell (h2 j k hk) fun h=>h⟩
set_option maxHeartbeats 4000000 in
set_option maxRecDepth 100000 in
theorem Wh {F:Nat→Prop} {w:World} {c v:Value} {r:List Vl} (hk:Vb w c (r.map (·.k))) (h:Zq F w v r) (hr:∀ x∈r,x.right=true) (hlen:r.length≤1000000) :
  Calls Tryz.prog 164 #[c,v] w fun e w'=>e = .returned (.bool true)∧Chg (fun _=>False) w w':=by
 have hfit:=h.fit
 obtain ⟨CA,ccap,rfl,hk⟩:=hk
 rw [List.length_map] at hk ⊢
 obtain ⟨A,cap,rfl,hn,hcap,hat⟩:=h
 have HA:=Lib.hid hat
 have HK:=Lib.hid hk
 have HL:=Lib.hid hlen
 have HR:=Lib.hid hr
 have HF:=Lib.hid hfit
 clear hat hk hlen hr hfit
 go_enter Tryz.func164,Tryz.ntmps164
 go_wp2_with fail
 go_loopw [14] (fun i wr=>∃ (I:Nat),I≤r.length∧i = .int .i64 I∧Chg (fun _=>False) w wr) (fun i _=>r.length-(intOf i).toNat)
 case atStart=>exact ⟨0,Nat.zero_le _,rfl,Chg.refl _ _⟩
 case round =>
  obtain ⟨I,hI,rfl,hcw⟩:=hrel
  by_cases hlt:I<r.length
  ·obtain ⟨b,off,rfl,_,hb,hx⟩:=HA.out (by omega)
   obtain ⟨cb,coff,rfl,hk⟩:=HK.out (by omega)
   obtain ⟨x,hxI⟩:∃ x,r[I]? = some x:=⟨_,List.getElem?_eq_getElem hlt⟩
   obtain ⟨p0,p1,p2,_⟩:=hx I x hxI
   have q0:=hcw.cell p0 (fun h=>h)
   have q1:=hcw.cell p1 (fun h=>h)
   have q2:=hcw.cell p2 (fun h=>h)
   have qk:=hcw.cell (hk I x.k (by rw [List.getElem?_map,hxI]; rfl)) (fun h=>h)
   have hc1:=fun W=>Xv x W (HF.out x (List.mem_of_getElem? hxI))
   have HV:=Lib.hid (HR.out x (List.mem_of_getElem? hxI))
   clear hx hk p0 p1 p2 hxI
   unfold Vl.val at hc1
   go_wp2_with fail
   have hcd:Chg (fun _=>False) w ((wr.alloc (.cells #[.int .i64 x.k,.int .i64 x.n,.string (str x.s)] 55)).drew):=(hcw.alloc _).drew
   have c0d:((wr.alloc (.cells #[.int .i64 x.k,.int .i64 x.n,.string (str x.s)] 55)).drew).cell? ⟨wr.heap.size,0,none⟩=some (.int .i64 x.k):=by go_simp
   have c1d:((wr.alloc (.cells #[.int .i64 x.k,.int .i64 x.n,.string (str x.s)] 55)).drew).cell? ⟨wr.heap.size,1,none⟩=some (.int .i64 x.n):=by go_simp
   have c2d:((wr.alloc (.cells #[.int .i64 x.k,.int .i64 x.n,.string (str x.s)] 55)).drew).cell? ⟨wr.heap.size,2,none⟩=some (.string (str x.s)):=by go_simp
   have ckd:=(((Chg.refl (fun _=>False) wr).alloc (.cells #[.int .i64 x.k,.int .i64 x.n,.string (str x.s)] 55)).drew).cell qk (fun h=>h)
   refine Zm [0,5,10] (S:=fun wx=>wx.cell? ⟨wr.heap.size,0,none⟩=some (.int .i64 x.k)∧wx.cell? ⟨wr.heap.size,1,none⟩=some (.int .i64 x.n)∧wx.cell? ⟨wr.heap.size,2,none⟩=some (.string (str x.s))∧wx.cell? ⟨cb,coff+I*2+1,none⟩=some (.int .i64 x.k)) (by kernel_rfl) ⟨c0d,c1d,c2d,ckd⟩ (fun hHeld => ?_)
   refine Zp (i:=0) (some 19) (v := ?_) (by decide) rfl rfl (by kernel_rfl) (by kernel_rfl) (by kernel_rfl) (fun _ _ _ h=>h) (Or.inl ⟨by rfl,?_⟩) (by assumption) ?_
   rotate_left
   ·(intro wx hSw; go_simp; try (with_reducible rfl))
   try simp only [Act.put,List.setIfInBounds_toArray,List.set_cons_zero,List.set_cons_succ]
   refine Zj (rs:=[1]) (by kernel_rfl) (by simp) ?_
   refine Zf.cons rfl (fun K hK => ?_) Zf.nil
   go_simp
   refine (hc1 _).mono ?_
   rintro _ wA ⟨rfl,hA⟩
   have c0A:=hA.cell c0d (fun h=>h)
   have c1A:=hA.cell c1d (fun h=>h)
   have c2A:=hA.cell c2d (fun h=>h)
   have ckA:=hA.cell ckd (fun h=>h)
   have hcA:=hcd.trans hA fun _ _ h=>h
   have hSA:=And.intro c0A (And.intro c1A (And.intro c2A ckA))
   rw [HV.out]
   refine hK.out _ _ ?_ ?_
   ·((intro _; exact ⟨c0A,c1A,c2A,ckA⟩))
   clear hK K
   try simp only [Act.put,List.setIfInBounds_toArray,List.set_cons_zero,List.set_cons_succ]
   refine Zb (i:=2) (some 21) (v := ?_) rfl rfl (by kernel_rfl) (by kernel_rfl) (by kernel_rfl) (fun _ _ _ h=>h) (Or.inl ⟨by rfl,?_⟩) ?_
   rotate_left
   ·(intro wx hSw; clear hSw; go_simp; try (with_reducible rfl))
   try simp only [Act.put,List.setIfInBounds_toArray,List.set_cons_zero,List.set_cons_succ]
   refine Zb (i:=3) (some 22) (v := ?_) rfl rfl (by kernel_rfl) (by kernel_rfl) (by kernel_rfl) (fun _ _ _ h=>h) (Or.inl ⟨by rfl,?_⟩) ?_
   rotate_left
   ·(intro wx hSw; clear hSw; go_simp; try (with_reducible rfl))
   try simp only [Act.put,List.setIfInBounds_toArray,List.set_cons_zero,List.set_cons_succ]
   refine Zb (i:=4) (some 23) (v := ?_) rfl rfl (by kernel_rfl) (by kernel_rfl) (by kernel_rfl) (fun _ _ _ h=>h) (Or.inl ⟨by rfl,?_⟩) ?_
   rotate_left
   ·(intro wx hSw; clear hSw; go_simp; try (with_reducible rfl))
   try simp only [Act.put,List.setIfInBounds_toArray,List.set_cons_zero,List.set_cons_succ]
   refine Zp (i:=5) (some 24) (v := ?_) (by decide) rfl rfl (by kernel_rfl) (by kernel_rfl) (by kernel_rfl) (fun _ _ _ h=>h) (Or.inl ⟨by rfl,?_⟩) (by assumption) ?_
   rotate_left
   ·(intro wx hSw; go_simp; try (with_reducible rfl))
   try simp only [Act.put,List.setIfInBounds_toArray,List.set_cons_zero,List.set_cons_succ]
   refine Zb (i:=6) (some 25) (v := ?_) rfl rfl (by kernel_rfl) (by kernel_rfl) (by kernel_rfl) (fun _ _ _ h=>h) (Or.inl ⟨by rfl,?_⟩) ?_
   rotate_left
   ·(intro wx hSw; clear hSw; go_simp; try (with_reducible rfl))
   try simp only [Act.put,List.setIfInBounds_toArray,List.set_cons_zero,List.set_cons_succ]
   refine Zb (i:=7) (some 26) (v := ?_) rfl rfl (by kernel_rfl) (by kernel_rfl) (by kernel_rfl) (fun _ _ _ h=>h) (Or.inl ⟨by rfl,?_⟩) ?_
   rotate_left
   ·(intro wx hSw; clear hSw; go_simp; try (with_reducible rfl))
   try simp only [Act.put,List.setIfInBounds_toArray,List.set_cons_zero,List.set_cons_succ]
   refine Zb (i:=8) (some 27) (v := ?_) rfl rfl (by kernel_rfl) (by kernel_rfl) (by kernel_rfl) (fun _ _ _ h=>h) (Or.inl ⟨by rfl,?_⟩) ?_
   rotate_left
   ·(intro wx hSw; clear hSw; go_simp; try (with_reducible rfl))
   try simp only [Act.put,List.setIfInBounds_toArray,List.set_cons_zero,List.set_cons_succ]
   refine Zb (i:=9) (some 28) (v := ?_) rfl rfl (by kernel_rfl) (by kernel_rfl) (by kernel_rfl) (fun _ _ _ h=>h) (Or.inl ⟨by rfl,?_⟩) ?_
   rotate_left
   ·(intro wx hSw; clear hSw; go_simp; try (with_reducible rfl))
   try simp only [Act.put,List.setIfInBounds_toArray,List.set_cons_zero,List.set_cons_succ]
   refine Zp (i:=10) (some 29) (v := ?_) (by decide) rfl rfl (by kernel_rfl) (by kernel_rfl) (by kernel_rfl) (fun _ _ _ h=>h) (Or.inl ⟨by rfl,?_⟩) (by assumption) ?_
   rotate_left
   ·(intro wx hSw; go_simp; try (with_reducible rfl))
   try simp only [Act.put,List.setIfInBounds_toArray,List.set_cons_zero,List.set_cons_succ]
   refine Zb (i:=11) (some 30) (v := ?_) rfl rfl (by kernel_rfl) (by kernel_rfl) (by kernel_rfl) (fun _ _ _ h=>h) (Or.inl ⟨by rfl,?_⟩) ?_
   rotate_left
   ·(intro wx hSw; clear hSw; go_simp; try (with_reducible rfl))
   try simp only [Act.put,List.setIfInBounds_toArray,List.set_cons_zero,List.set_cons_succ]
   refine Zb (i:=12) (some 31) (v := ?_) rfl rfl (by kernel_rfl) (by kernel_rfl) (by kernel_rfl) (fun _ _ _ h=>h) (Or.inl ⟨by rfl,?_⟩) ?_
   rotate_left
   ·(intro wx hSw; clear hSw; go_simp; try (with_reducible rfl))
   try simp only [Act.put,List.setIfInBounds_toArray,List.set_cons_zero,List.set_cons_succ]
   refine Zw (by kernel_rfl) ?_ _
   go_wp2_with fail
   go_roundw
   case rel=>exact ⟨I+1,by omega,by go_num,hcA⟩
   case measure=>simp [intOf]; omega
  ·have hge:¬ ((I:Int)<(r.length:Int)):=by omega
   go_wp2_with fail
   go_ret
   exact ⟨rfl,hcw⟩
end Go.Proofs.YtheflbaejhlboaaGreatDoor
namespace Go.Proofs.YtheflbaejhlboaaGreatDoor
open Go.RowKit
set_option maxRecDepth 100000 in
theorem Hh {F:Nat→Prop} {w:World} {c rv:Value} {r:List Vl} {a b tb:Nat} (hc:w.cell? ⟨tb,1,none⟩=some c) (hk:Vb w c (r.map (·.k))) (h:Zq F w rv r) (hr:∀ x∈r,x.right=true) (hlen:r.length≤1000000) :
  Calls Tryz.prog 163 #[.agg #[rv,tc a b],.pointer (some ⟨tb,0,none⟩)] w fun e w'=>e = .returned (.bool false)∧Chg (fun _=>False) w w':=by
 have h1:=fun W (hW:Chg (fun _=>False) w W)=>Wh (hk.Zi hW) (h.Zi hW) hr hlen
 obtain ⟨A,cap,rfl,_⟩:=h
 obtain ⟨CA,ccap,rfl,_⟩:=hk
 rw [List.length_map] at hc h1
 unfold tc
 clear hr hlen
 have hd:Chg (fun _=>False) w (w.alloc (.cells #[.slice A r.length cap,.complex .f64 (fl a) (fl b)] 59)):=(Chg.refl _ w).alloc _
 have hc2:=hd.cell hc (fun h=>h)
 go_enter Tryz.func163,Tryz.ntmps163
 go_wp2_with fail
 refine (h1 _ hd).mono ?_
 rintro _ w1 ⟨rfl,h2⟩
 go_wp2_with fail
 go_ret
 exact ⟨rfl,hd.trans h2 fun _ _ h=>h⟩
end Go.Proofs.YtheflbaejhlboaaGreatDoor
