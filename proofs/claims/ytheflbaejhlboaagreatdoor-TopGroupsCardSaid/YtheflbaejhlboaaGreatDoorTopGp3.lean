/- Lemmas for a law of confluencetop. -/
import Derived.Test.YtheflbaejhlboaaGreatDoorTopGp2
import Derived.Lib.AppendZeros
import Derived.ProofKit
import Derived.Deep.Slices
import Derived.Deep.Strs
import Derived.SizedLaws
set_option linter.all false
set_option maxHeartbeats 8000000
set_option maxRecDepth 100000
namespace Go.Proofs.YtheflbaejhlboaaGreatDoor
open Tryz
section
open Go.RowKit
theorem Nt (a b:Nat) (ps:List PI):(ins a b ps).length=ps.length:=VH _ _ _ _
theorem E4 (a b:Nat) (ps:List PI):∀ z∈ins a b ps,z∈ps:=fun z h=>Pk _ _ _ _ z h
theorem FB {F:Nat->Prop} {w:World} {g N cap:Nat} {ps:List PI} (h:Arr w g ps) (hN:ps.length=N) (hcap:N<=cap) (hm:N<=100000000) (hp:∀ p∈ps,POk F w p) (hF:¬ F g) :
  Calls prog 395 #[.slice (some ⟨g,0,none⟩) N cap,.int .i64 (N:Int),We] w fun e w'=>e = .returned (.tuple #[])/\(∃ f,N<=20*2^f/\Arr w' g (Re N f 20 (TB (N+1) 0 20 N ps)))/\Chg (fun k=>k=g) w w':=by
 have I1:∀ (a b:Nat) (W:World) (qs:List PI),Arr W g qs->qs.length=N->a<=b->b<=N->(∀ z∈qs,z∈ps)->Chg (fun k=>k=g) w W->Calls prog 481 #[.slice (some ⟨g,0,none⟩) N cap,.int .i64 (a:Int),.int .i64 (b:Int),We] W fun e w'=>e = .returned (.tuple #[])/\Arr w' g (ins a b qs)/\Chg (fun k=>k=g) W w' :=
  fun a b W qs hA hl hab hb hq hc=>PU hA hl hcap hab hb (by omega) (fun p hp'=>(hp p (hq p hp')).chg hc fun b hb _ e=>hF (e▸hb)) hF
 have I2:∀ (a m b:Nat) (W:World) (qs:List PI),Arr W g qs->qs.length=N->a<m->m<b->b<=N->(∀ z∈qs,z∈ps)->Chg (fun k=>k=g) w W->Calls prog 482 #[.slice (some ⟨g,0,none⟩) N cap,.int .i64 (a:Int),.int .i64 (m:Int),.int .i64 (b:Int),We] W fun e w'=>e = .returned (.tuple #[])/\Arr w' g (VI N a m b qs)/\Chg (fun k=>k=g) W w' :=
  fun a m b W qs hA hl h1 h2 hb hq hc=>Nq hcap (by omega) hF N (by omega) hA hl h1 h2 hb (fun p hp'=>(hp p (hq p hp')).chg hc fun b hb _ e=>hF (e▸hb))
 have H:=Hd h;have HN:=Hd hN;have HM:=Hd hm;have J1:=Hd I1;have J2:=Hd I2;clear h hN hm I1 I2 hp hF;obtain ⟨mD,kY⟩:∃ x,TB (N+1) 0 20 N ps=x:=⟨_,rfl⟩
 rw [kY];have HQ0:=Hd kY;clear kY;unfold We at J1 J2 ⊢
 go_enter func395,ntmps395
 go_wp2_with fail
 go_loopw [7,8] (fun x y wr=>∃ (A B:Nat) (qs:List PI),A<=N/\B=A+20/\x = .int .i64 A/\y = .int .i64 B/\Hid (qs.length=N)/\Hid (Arr wr g qs)/\Hid (∀ z∈qs,z∈ps)/\Hid (∃ f,N-A<f/\mD=TB f A B N qs)/\Chg (fun k=>k=g) w wr) (fun x _ _=>N-(intOf x).toNat)
 case atStart=>exact ⟨0,20,ps,Nat.zero_le _,rfl,rfl,rfl,HN,H,Hd (fun z h=>h),Hd ⟨N+1,by omega,HQ0.out.symm⟩,Chg.refl _ _⟩
 case round =>
  obtain ⟨A,B,qs,hA,hB,rfl,rfl,HL,HA,HQ,HR,hcw⟩:=hrel;have hB1:A+20<=B:=by omega
  have hB2:B<=A+20:=by omega
  clear hB;have hM:=HM.out;obtain ⟨f0,hf0,hR⟩:=HR.out;obtain ⟨f,rfl⟩:∃ f,f0=f+1:=⟨f0-1,by omega⟩
  rw [TB] at hR;by_cases hle:B<=N
  ·rw [if_pos hle] at hR;have HR2:=Hd hR;have hc1:=J1.out A B wr qs HA.out HL.out (by omega) hle HQ.out hcw;have v1:IntKind.i64.wrap ((B:Int)+20)=((B+20:Nat):Int):=by rw [show (B:Int)+20=((B+20:Nat):Int) by omega]; exact IntWalk.i64_in _ (by omega)
   clear hR
   go_wp2_with fail
   refine hc1.mono ?_;rintro _ w2 ⟨rfl,hA2,hc2⟩;have HA2:=Hd hA2;clear hA2
   go_wp2_with fail
   go_roundw
   case rel=>exact ⟨B,B+20,_,hle,rfl,rfl,by go_num,Hd (by rw [Nt]; exact HL.out),HA2,Hd (fun z h=>HQ.out z (E4 _ _ _ z h)),Hd ⟨f,by omega,HR2.out⟩,hcw.trans hc2 fun _ _ h=>h⟩
   case measure=>simp [intOf]; omega
  ·rw [if_neg hle] at hR;have HR2:=Hd hR;have hc1:=J1.out A N wr qs HA.out HL.out hA (Nat.le_refl _) HQ.out hcw;clear hR
   go_wp2_with fail
   refine hc1.mono ?_;rintro _ w2 ⟨rfl,hA2,hc2⟩;rw [<- HR2.out] at hA2;have HA2:=Hd hA2;have HL2:=Hd (show mD.length=N by rw [HR2.out,Nt]; exact HL.out);have jK:=Hd (show ∀ z∈mD,z∈ps from fun z h=>by rw [HR2.out] at h; exact HQ.out z (E4 _ _ _ z h));have hcw2:=hcw.trans hc2 fun _ _ h=>h;clear hA2 HR2 hc2 HR hcw HA HL HQ;obtain ⟨wq,hwq⟩:∃ x,x=wr:=⟨_,rfl⟩
   subst hwq
   go_wp2_with fail
   go_loopw [6] (fun x wr=>∃ (K:Nat) (rs:List PI),20<=K/\K<=200000000/\x = .int .i64 K/\Hid (rs.length=N)/\Hid (Arr wr g rs)/\Hid (∀ z∈rs,z∈ps)/\Hid (∀ f,N<=K*2^f->∃ f',N<=20*2^f'/\Re N f' 20 mD=Re N f K rs)/\Chg (fun k=>k=g) w wr) (fun x _=>N-(intOf x).toNat)
   case atStart=>exact ⟨20,mD,Nat.le_refl _,by decide,rfl,HL2,HA2,jK,Hd (fun f hf=>⟨f,hf,rfl⟩),hcw2⟩
   case round =>
    clear HA2 HL2 jK hcw2;obtain ⟨K0,rs,hK,hK2,rfl,HL,HA,HQ,HR,hcw⟩:=hrel;by_cases hlt:K0<N
    ·obtain ⟨k2,hk2⟩:∃ x,2*K0=x:=⟨_,rfl⟩
     have v1:IntKind.i64.wrap (2*(K0:Int))=(k2:Int):=by rw [show 2*(K0:Int)=(k2:Int) by omega]; exact IntWalk.i64_in _ (by omega)
     have v2:IntKind.i64.wrap ((K0:Int)*2)=(k2:Int):=by rw [show (K0:Int)*2=(k2:Int) by omega]; exact IntWalk.i64_in _ (by omega)
     have xw:=Hd hk2;have hk3:2*K0<=k2:=by omega
     have hk4:k2<=2*K0:=by omega
     clear hk2;obtain ⟨wq,hwq⟩:∃ x,x=wr:=⟨_,rfl⟩
     subst hwq;obtain ⟨pm,hpm⟩:∃ x,YV N K0 (N+1) 0 k2 rs=x:=⟨_,rfl⟩
     have AP:=Hd hpm;clear hpm
     go_wp2_with fail
     go_loopw [7,8] (fun x y wr=>∃ (A B:Nat) (us:List PI),A<=N/\B=A+k2/\x = .int .i64 A/\y = .int .i64 B/\Hid (us.length=N)/\Hid (Arr wr g us)/\Hid (∀ z∈us,z∈ps)/\Hid (∃ f,N-A<f/\pm=YV N K0 f A B us)/\Chg (fun k=>k=g) w wr) (fun x _ _=>N-(intOf x).toNat)
     case atStart=>exact ⟨0,k2,rs,Nat.zero_le _,by omega,rfl,rfl,HL,HA,HQ,Hd ⟨N+1,by omega,AP.out.symm⟩,hcw⟩
     case round =>
      clear HL HA HQ hcw;obtain ⟨A2,B2,us,hA2,hB2,rfl,rfl,HL,HA,HQ,HP,hcw⟩:=hrel;have hB3:A2+k2<=B2:=by omega
      have hB4:B2<=A2+k2:=by omega
      clear hB2;obtain ⟨f0,hf0,hR⟩:=HP.out;obtain ⟨f,rfl⟩:∃ f,f0=f+1:=⟨f0-1,by omega⟩
      rw [YV] at hR;obtain ⟨ak,hak⟩:∃ x,A2+K0=x:=⟨_,rfl⟩
      have v3:IntKind.i64.wrap ((A2:Int)+(K0:Int))=(ak:Int):=by rw [show (A2:Int)+(K0:Int)=(ak:Int) by omega]; exact IntWalk.i64_in _ (by omega)
      rw [hak,xw.out] at hR;have ha3:A2+K0<=ak:=by omega
      have ha4:ak<=A2+K0:=by omega
      clear hak;by_cases hle2:B2<=N
      ·rw [if_pos hle2] at hR;have HR2:=Hd hR;have hc1:=J2.out A2 ak B2 wr us HA.out HL.out (by omega) (by omega) hle2 HQ.out hcw;have v4:IntKind.i64.wrap ((B2:Int)+(k2:Int))=((B2+k2:Nat):Int):=by rw [show (B2:Int)+(k2:Int)=((B2+k2:Nat):Int) by omega]; exact IntWalk.i64_in _ (by omega)
       clear hR
       go_wp2_with fail
       refine hc1.mono ?_;rintro _ w3 ⟨rfl,hA3,hc3⟩;have jL:=Hd hA3;clear hA3
       go_wp2_with fail
       go_roundw
       case rel=>exact ⟨B2,B2+k2,_,hle2,rfl,rfl,by go_num,Hd (by rw [J3]; exact HL.out),jL,Hd (fun z h=>HQ.out z (Wv _ _ _ _ _ z h)),Hd ⟨f,by omega,HR2.out⟩,hcw.trans hc3 fun _ _ h=>h⟩
       case measure=>simp [intOf]; omega
      ·rw [if_neg hle2] at hR
       have eX:∀ jM,pm=jM->∀ f,N<=k2*2^f->∃ f',N<=20*2^f'/\Re N f' 20 mD=Re N f k2 jM:=fun jM e f hf=>by
        obtain ⟨f',h1,h2⟩:=HR.out (f+1) (by rw [Nat.pow_succ,<- Nat.mul_assoc,Nat.mul_right_comm,Nat.mul_comm K0 2,xw.out]; exact hf);refine ⟨f',h1,h2.trans ?_⟩;rw [Re,if_pos hlt,Nat.mul_comm K0 2,xw.out,AP.out,e]
       by_cases hlt2:ak<N
       ·rw [if_pos hlt2] at hR;have HS:=Hd (eX _ hR);have hc1:=J2.out A2 ak N wr us HA.out HL.out (by omega) hlt2 (Nat.le_refl _) HQ.out hcw;clear hR eX
        go_wp2_with fail
        refine hc1.mono ?_;rintro _ w3 ⟨rfl,hA3,hc3⟩;have jL:=Hd hA3;clear hA3
        go_wp2_with fail
        go_roundw
        case rel=>exact ⟨k2,_,by omega,by omega,rfl,Hd (by rw [J3]; exact HL.out),jL,Hd (fun z h=>HQ.out z (Wv _ _ _ _ _ z h)),HS,hcw.trans hc3 fun _ _ h=>h⟩
        case measure=>simp [intOf]; omega
       ·rw [if_neg hlt2] at hR;have HS:=Hd (eX _ hR);clear hR eX
        go_wp2_with fail
        go_roundw
        case rel=>exact ⟨k2,us,by omega,by omega,rfl,HL,HA,HQ,HS,hcw⟩
        case measure=>simp [intOf]; omega
    ·have hge:¬ ((K0:Int)<(N:Int)):=by omega
     go_wp2_with fail
     go_end0
     obtain ⟨f',h1,h2⟩:=HR.out 0 (by rw [Nat.pow_zero,Nat.mul_one]; omega);exact ⟨rfl,⟨f',h1,by rw [h2]; exact HA.out⟩,hcw⟩
theorem Sv {F:Nat->Prop} {w:World} {g N cap:Nat} {ps:List PI} (h:Arr w g ps) (hN:ps.length=N) (hcap:N<=cap) (hm:N<=100000000) (hp:∀ p∈ps,POk F w p) (hF:¬ F g) (hr:RVs ps) :
  Calls prog 284 #[.slice (some ⟨g,0,none⟩) N cap,We] w fun e w'=>e = .returned (.tuple #[])/\(∃ qs,Arr w' g qs/\qs.Perm ps/\qs.Pairwise le)/\Chg (fun k=>k=g) w w':=by
 have h1:=FB h hN hcap hm hp hF;unfold We at h1 ⊢
 go_enter func284,ntmps284
 go_wp2_with fail
 refine h1.mono ?_;rintro _ w1 ⟨rfl,⟨f,hf,hA⟩,hc⟩
 go_wp2_with fail
 go_end0
 obtain ⟨l1,k1,k2,k3⟩:=H7 N [] ps (a:=0) (b:=20) (n:=N) rfl rfl (by omega) (by omega) hr;simp only [List.nil_append] at k1;obtain ⟨l2,j1,j2,j3⟩:=Pn N f 20 l1 (by decide) (by rw [k2.length_eq]; exact hN.symm) hf (fun z hz=>hr z (k2.mem_iff.1 hz)) k3;rw [k1,j1] at hA;exact ⟨rfl,⟨l2,hA,j2.trans k2,j3⟩,hc⟩
end
section
open Go.RowKit
theorem Nu {w:World} {A:Option Addr} {c:Nat} {f:Value} :
  Calls prog 481 #[.slice A 0 c,.int .i64 0,.int .i64 0,f] w fun e w'=>e = .returned (.tuple #[])/\Chg (fun _=>False) w w':=by
 go_enter func481,ntmps481
 go_wp2_with fail
 go_loopw [8] (fun x wr=>x = .int .i64 1/\Chg (fun _=>False) w wr) (fun _ _=>0)
 case atStart=>exact ⟨rfl,Chg.refl _ _⟩
 case round =>
  obtain ⟨rfl,hc⟩:=hrel
  go_wp2_with fail
  go_end0
  exact ⟨rfl,hc⟩
theorem CK {w:World} {A:Option Addr} {c:Nat} {f:Value} :
  Calls prog 395 #[.slice A 0 c,.int .i64 0,f] w fun e w'=>e = .returned (.tuple #[])/\Chg (fun _=>False) w w':=by
 have h1:=fun W=>Nu (w:=W) (A:=A) (c:=c) (f:=f)
 go_enter func395,ntmps395
 go_wp2_with fail
 go_loopw [7,8] (fun x y wr=>x = .int .i64 0/\y = .int .i64 20/\Chg (fun _=>False) w wr) (fun _ _ _=>0)
 case atStart=>exact ⟨rfl,rfl,Chg.refl _ _⟩
 case round =>
  obtain ⟨rfl,rfl,hc⟩:=hrel;obtain ⟨wq,hwq⟩:∃ x,x=wr:=⟨_,rfl⟩
  subst hwq
  go_wp2_with fail
  refine (h1 _).mono ?_;rintro _ w1 ⟨rfl,hc1⟩
  go_wp2_with fail
  go_loopw [6] (fun x wr=>x = .int .i64 20/\Chg (fun _=>False) w wr) (fun _ _=>0)
  case atStart=>exact ⟨rfl,hc.trans hc1 fun _ _ h=>h⟩
  case round =>
   clear hc;obtain ⟨rfl,hc⟩:=hrel
   go_wp2_with fail
   go_end0
   exact ⟨rfl,hc⟩
theorem ZbB {w:World} {A:Option Addr} {c:Nat} {f:Value} :
  Calls prog 284 #[.slice A 0 c,f] w fun e w'=>e = .returned (.tuple #[])/\Chg (fun _=>False) w w':=by
 have h1:=fun W=>CK (w:=W) (A:=A) (c:=c) (f:=f)
 go_enter func284,ntmps284
 go_wp2_with fail
 refine (h1 _).mono ?_;rintro _ w1 ⟨rfl,hc1⟩
 go_wp2_with fail
 go_end0
 exact ⟨rfl,hc1⟩
theorem VB:ZaR prog 44 44 59 2 40:=by
 obtain ⟨i,hi,hz,hs,hb⟩:=info_parts (P:=prog) (e:=59) (z := .agg #[.slice none 0 0,.complex .f64 0 0]) (size:=2) (bytes:=40) (by kernel_rfl);exact ⟨underlying44,⟨_,underlying44⟩,⟨i,_,hi,hz,hs,hb,rfl⟩,by decide⟩
def old (w:World) (F:Nat->Prop):Nat->Prop:=fun b=>F b/\b<w.heap.size
def CL (F:Nat->Prop) (w:World) (l:List Itm) (u:Value) (w':World):Prop :=
 ∃ A cap ps,u = .slice A l.length cap/\l.length<=cap/\ps.map (·.2)=l/\(0<l.length->∃ g,A=some ⟨g,0,none⟩/\w.heap.size<=g/\Arr w' g ps)/\∀ p∈ps,POk (old w F) w' p
theorem Sw {F:Nat->Prop} {w:World} {v:Value} {l:List Itm} (h:Zp F w v l) (hlen:l.length<=1000000) :
  Calls prog 283 #[v] w (Neu w (CL F w l)):=by
 obtain ⟨A,cap,ps,rfl,hn,hcap,hps,hcs,hok⟩:=h.Zcq;have HL:=Hd hlen;have HC:=Hd hcs;have HP:=Hd hps;have HO:=Hd (fun p hp=>(hok p hp).mono (G:=old w F) fun b hb hlt=>⟨hb,hlt⟩);have H1:=Hd (Y5 hok);have hpl:ps.length=l.length:=by rw [<- hps,List.length_map]
 have jy:=Hd hpl;clear hlen hcs hps hok h hpl;have hz:=@Lib.run_eql_slice_nil prog;cases A with
 | none =>
  go_enter func283,ntmps283
  go_wp2_with fail
  go_ret
  have h0:l.length=0:=by
   rcases Nat.eq_zero_or_pos l.length with h0 | h0
   ·exact h0
   ·obtain ⟨b,off,e,_⟩:=HC.out.2 h0;cases e
  exact ⟨_,rfl,⟨none,0,ps,by rw [h0]; rfl,by omega,HP.out,fun h=>by omega,HO.out⟩,Chg.refl _ _⟩
 | some ad =>
  have H2:=Hd (show CsK (w.alloc (.cells #[] 59)) F 2 (some ad) l.length (ZG ps) from HC.out.chg ((Chg.refl (fun _=>False) w).alloc _) fun _ _ _ h=>h)
  go_enter func283,ntmps283
  go_wp2_with (at_builtin; refine ZA rfl _ _ 44 44 rfl 59 2 40 VB none _ 0 0 _ [] (ZG ps) _ rfl rfl (Qw.Xt _ _ _ _) (XK.slice H2.out) H1.out l.length ?_ ?_ ?_ ?_)
  ·exact Nat.zero_add _
  ·have:=HL.out; omega
  ·have:=HL.out; omega
  ·intro own' A' cap' w' hown hor ae;have xy:=Hd hown;clear hown
   go_wp2_with fail
   go_ret
   have hc:Chg (fun _=>False) w w':=((Chg.refl (fun _=>False) w).alloc _).trans ae (fun _ _ hf=>by cases hf);refine ⟨_,rfl,⟨A',cap',ps,rfl,xy.out.fits,HP.out,fun h0 => ?_,fun p hp=>(HO.out p hp).chg hc fun _ _ _ h=>h⟩,hc⟩;rcases xy.out.2.2 with ⟨e1,e2⟩ | ⟨g,cur,e1,e2,e3,e4,e5,e6⟩
   ·have:=xy.out.fits; omega
   ·refine ⟨g,e2,?_,⟨cur,e3,?_⟩,fun p hp => ?_⟩
    ·rcases hor with h1 | h1
     ·rw [h1] at e1; cases e1
     ·rw [h1] at e1; simp at e1; omega
    ·rw [jy.out]; simpa using e6
    ·obtain ⟨⟨a1,c1,e,_⟩,_⟩:=HO.out p hp;rw [e]; rfl
end
section
def Qs:List Itm->List Vl->Int
 | [],_=>0
 | x::l,r=>(if x.row=r then x.net else 0)+Qs l r
def nf:List (List Vl×Int)->List Vl->Int
 | [],_=>0
 | p::l,r=>(if p.1=r then p.2 else 0)+nf l r
def ZU:List Itm->Nat
 | []=>0
 | x::l=>x.a+x.b+ZU l
theorem Z9 (l m:List Itm) (r:List Vl):Qs (l++m) r=Qs l r+Qs m r:=by
 induction l with
 | nil=>simp [Qs]
 | cons x l ih=>rw [List.cons_append,Qs,Qs,ih]; omega
theorem Sr (l m:List (List Vl×Int)) (r:List Vl):nf (l++m) r=nf l r+nf m r:=by
 induction l with
 | nil=>simp [nf]
 | cons x l ih=>rw [List.cons_append,nf,nf,ih]; omega
theorem KO (l m:List Itm):ZU (l++m)=ZU l+ZU m:=by
 induction l with
 | nil=>simp [ZU]
 | cons x l ih=>rw [List.cons_append,ZU,ZU,ih]; omega
theorem Sb {l m:List Itm} (h:l.Perm m) (r:List Vl):Qs l r=Qs m r:=by
 induction h with
 | nil=>rfl
 | cons x _ ih=>rw [Qs,Qs,ih]
 | swap x y l=>simp only [Qs]; omega
 | trans _ _ h1 h2=>exact h1.trans h2
theorem ZbC {l m:List Itm} (h:l.Perm m):ZU l=ZU m:=by
 induction h with
 | nil=>rfl
 | cons x _ ih=>rw [ZU,ZU,ih]
 | swap x y l=>simp only [ZU]; omega
 | trans _ _ h1 h2=>exact h1.trans h2
theorem Wl (S:List (List Vl×Int)) (r:List Vl):Qs (Zi S) r=nf S r:=by
 induction S with
 | nil=>rfl
 | cons p S ih =>
  show Qs (ZB p::Zi S) r=_;rw [Qs,nf,ih];have:(ZB p).net=p.2:=by unfold Itm.net ZB; simp only; omega
  rw [this];rfl
structure ZP (S:List (List Vl×Int)):Prop where
 row:∀ p∈S,Zj p.1=true
 net:∀ p∈S,p.2≠0
 ord:S.Pairwise fun p q=>Qv p.1 q.1<0
theorem ZP.tail {p:List Vl×Int} {S:List (List Vl×Int)} (h:ZP (p::S)):ZP S :=
 ⟨fun x hx=>h.row x (by simp [hx]),fun x hx=>h.net x (by simp [hx]),(List.pairwise_cons.1 h.ord).2⟩
theorem ZP.nil:ZP []:=⟨fun p h=>(by cases h),fun p h=>(by cases h),List.Pairwise.nil⟩
theorem VJ {r:List Vl} (h:RV r):¬ Qv r r<0:=by rw [(QW h h).2 rfl]; omega
theorem T2 {S:List (List Vl×Int)} {r:List Vl} (h:∀ p∈S,p.1≠r):nf S r=0:=by
 induction S with
 | nil=>rfl
 | cons p S ih =>
  rw [nf,if_neg (h p (by simp)),ih fun q hq=>h q (by simp [hq])];rfl
theorem ZP.Yl {p:List Vl×Int} {S:List (List Vl×Int)} (h:ZP (p::S)):nf (p::S) p.1=p.2:=by
 rw [nf,if_pos rfl,T2,Int.add_zero];intro q hq e;have:=(List.pairwise_cons.1 h.ord).1 q hq;rw [e] at this;exact VJ (ZZ (h.row p (by simp))) this
theorem ZP.Fi {S:List (List Vl×Int)} (h:ZP S) {p:List Vl×Int} (hp:p∈S):nf S p.1=p.2:=by
 induction S with
 | nil=>cases hp
 | cons q S ih =>
  rcases List.mem_cons.1 hp with rfl | hp'
  ·exact h.Yl
  ·rw [nf,if_neg,ih h.tail hp',Int.zero_add];intro e;have:=(List.pairwise_cons.1 h.ord).1 p hp';rw [e] at this;exact VJ (ZZ (h.row p hp)) this
theorem ZP.mem_of {S:List (List Vl×Int)} {r:List Vl} (h:nf S r≠0):∃ p∈S,p.1=r:=by
 by_cases e:∃ p∈S,p.1=r
 ·exact e
 ·exact absurd (T2 fun p hp he=>e ⟨p,hp,he⟩) h
theorem ZP.mem_iff {S:List (List Vl×Int)} (h:ZP S) (p:List Vl×Int):p∈S↔(nf S p.1=p.2/\p.2≠0):=by
 constructor
 ·intro hp;exact ⟨h.Fi hp,h.net p hp⟩
 ·rintro ⟨h1,h2⟩;obtain ⟨q,hq,e⟩:=ZP.mem_of (r:=p.1) (S:=S) (by rw [h1]; exact h2);have h3:=h.Fi hq;rw [e,h1] at h3;have:p=q:=Prod.ext e.symm h3;rw [this];exact hq
theorem ZP.uniq:∀ {S T:List (List Vl×Int)},ZP S->ZP T->(∀ r,nf S r=nf T r)->S=T
 | [],[],_,_,_=>rfl
 | [],q::T,_,hT,h=>by
  have:=h q.1;rw [hT.Yl] at this;exact absurd this.symm (hT.net q (by simp))
 | p::S,[],hS,_,h=>by
  have:=h p.1;rw [hS.Yl] at this;exact absurd this (hS.net p (by simp))
 | p::S,q::T,hS,hT,h=>by
  have hp:p∈q::T:=(hT.mem_iff p).2 ⟨by rw [<- h,hS.Yl],hS.net p (by simp)⟩;have hq:q∈p::S:=(hS.mem_iff q).2 ⟨by rw [h,hT.Yl],hT.net q (by simp)⟩;have rp:=ZZ (hS.row p (by simp));have rq:=ZZ (hT.row q (by simp))
  have e:p=q:=by
   rcases List.mem_cons.1 hp with e | hp'
   ·exact e
   ·rcases List.mem_cons.1 hq with e | hq'
    ·exact e.symm
    ·have h1:=(List.pairwise_cons.1 hT.ord).1 p hp';have h2:=(List.pairwise_cons.1 hS.ord).1 q hq';exact absurd (Kl rp rq rp h2 h1) (VJ rp)
  subst e
  rw [ZP.uniq hS.tail hT.tail fun r=>by
   have:=h r;rw [nf,nf] at this
   omega]
theorem ZP.zr {S:List (List Vl×Int)} (h:ZP S) (hb:∀ p∈S,-1125899906842624<=p.2/\p.2<=1125899906842624):ZR S where
 row:=h.row
 net:=fun p hp=>⟨h.net p hp,hb p hp⟩
 ord:=fun j p q hp hq=>by
  have h1:=List.pairwise_iff_getElem.1 h.ord;obtain ⟨l1,e1⟩:=List.getElem?_eq_some_iff.1 hp;obtain ⟨l2,e2⟩:=List.getElem?_eq_some_iff.1 hq;have:=h1 j (j+1) l1 l2 (by omega);rw [e1,e2] at this;unfold P0;rw [h.row p (List.mem_of_getElem? hp),h.row q (List.mem_of_getElem? hq)];simpa using this
theorem ZP.snoc {S:List (List Vl×Int)} (h:ZP S) {q:List Vl} {s:Int} (hq:Zj q=true) (hs:s≠0) (hl:∀ p∈S,Qv p.1 q<0):ZP (S++[(q,s)]) where
 row:=fun p hp=>by
  rcases List.mem_append.1 hp with hp | hp
  ·exact h.row p hp
  ·rw [List.mem_singleton.1 hp]; exact hq
 net:=fun p hp=>by
  rcases List.mem_append.1 hp with hp | hp
  ·exact h.net p hp
  ·rw [List.mem_singleton.1 hp]; exact hs
 ord:=by
  rw [List.pairwise_append];refine ⟨h.ord,by simp,fun p hp r hr => ?_⟩;rw [List.mem_singleton.1 hr];exact hl p hp
end
section
open Go.RowKit
theorem LG {r q:List Vl} (hr:Zj r=true) (hq:Zj q=true):KN r q=decide (r=q):=by
 unfold KN;rw [hr,hq,Bool.true_and,Bool.true_and];exact decide_eq_decide.2 (QW (ZZ hr) (ZZ hq))
def Vi:List PI->Int
 | []=>0
 | p::l=>p.2.net+Vi l
theorem CM (l m:List PI):Vi (l++m)=Vi l+Vi m:=by
 induction l with
 | nil=>simp [Vi]
 | cons x l ih=>rw [List.cons_append,Vi,Vi,ih]; omega
theorem E5 {l:List PI} {q:List Vl} (h:∀ p∈l,p.2.row=q) (r:List Vl):Qs (l.map (·.2)) r=if q=r then Vi l else 0:=by
 induction l with
 | nil=>simp [Qs,Vi]
 | cons p l ih =>
  rw [List.map_cons,Qs,ih fun x hx=>h x (by simp [hx]),Vi,h p (by simp)];split <;> simp
theorem E6 (X:List PI) : -(ZU (X.map (·.2)):Int)<=Vi X/\Vi X<=(ZU (X.map (·.2)):Int):=by
 induction X with
 | nil=>simp [Vi,ZU]
 | cons p X ih =>
  rw [Vi,List.map_cons,ZU];unfold Itm.net;omega
theorem H8 (qs:List PI) (I k:Nat):ZU (((qs.drop I).take k).map (·.2))<=ZU (qs.map (·.2)):=by
 have e:qs=qs.take I++((qs.drop I).take k++(qs.drop I).drop k):=by rw [List.take_append_drop,List.take_append_drop]
 have h:ZU (qs.map (·.2))=ZU ((qs.take I).map (·.2))+(ZU (((qs.drop I).take k).map (·.2))+ZU (((qs.drop I).drop k).map (·.2))):=by
  rw [<- KO,<- List.map_append,<- KO,<- List.map_append,<- e]
 omega
theorem CN {qs:List PI} {I J:Nat} {p:PI} (dI:I<=J) (hp:qs[J]? = some p):(qs.drop I).take (J+1-I)=(qs.drop I).take (J-I)++[p]:=by
 rw [show J+1-I=(J-I)+1 by omega,List.take_add_one,List.getElem?_drop,show I+(J-I)=J by omega,hp];rfl
theorem CO {qs:List PI} {I J:Nat} (dI:I<=J):qs.take J=qs.take I++(qs.drop I).take (J-I):=by
 conv=>lhs; rw [show J=I+(J-I) by omega,List.take_add]
theorem Nv {qs:List PI} {f:PI} {I J:Nat} (hs:qs.Pairwise le) (hr:RVs qs) (hf:qs[I]? = some f) (dI:I<=J) (hJ:∀ y,qs[J]? = some y->y.2.row≠f.2.row):∀ z∈qs.drop J,Qv f.2.row z.2.row<0:=by
 intro z hz;obtain ⟨k,hk⟩:=List.getElem?_of_mem hz;rw [List.getElem?_drop] at hk;have rf:=hr f (List.mem_of_getElem? hf);have rz:=hr z (List.mem_of_getElem? hk);obtain ⟨lf,ef⟩:=List.getElem?_eq_some_iff.1 hf;obtain ⟨lk,ek⟩:=List.getElem?_eq_some_iff.1 hk;have pw:=List.pairwise_iff_getElem.1 hs
 have key:∀ y,qs[J]? = some y->Qv f.2.row y.2.row<0:=fun y hy=>by
  obtain ⟨ly,ey⟩:=List.getElem?_eq_some_iff.1 hy;have ry:=hr y (List.mem_of_getElem? hy);have hne:=hJ y hy
  have xz:I<J:=by
   rcases Nat.lt_or_ge I J with h | h
   ·exact h
   ·have e:I=J:=by omega
    subst e;rw [hf] at hy;cases hy;exact absurd rfl hne
  have h1:=pw I J lf ly xz;rw [ef,ey] at h1;unfold le rle at h1;have h2:Qv f.2.row y.2.row≠0:=fun e=>hne ((QW rf ry).1 e).symm;omega
 have sQ:J<qs.length:=by omega
 have hy:qs[J]? = some qs[J]:=List.getElem?_eq_getElem sQ;have ky:=key _ hy;cases k with
 | zero =>
  rw [Nat.add_zero,hy] at hk;cases hk;exact ky
 | succ k =>
  have h1:=pw J (J+(k+1)) sQ lk (by omega);rw [ek] at h1;have ry:=hr _ (List.mem_of_getElem? hy);unfold le rle at h1;by_cases e:Qv qs[J].2.row z.2.row=0
  ·rw [<- (QW ry rz).1 e]; exact ky
  ·exact Kl rf ry rz ky (by omega)
def Made (w:World) (l:List Itm) (e:Ending) (w':World):Prop :=
 ∃ u S,e = .returned (.tuple #[u,.int .i64 0])/\ZP S/\(∀ r,nf S r=Qs l r)/\S.length<=l.length/\Zp (new w) w' u (Zi S)/\Chg (fun _=>False) w w'
theorem M8 {F:Nat->Prop} {w:World} {v:Value} {l:List Itm} (h:Zp F w v l) (hlen:l.length<=4096) (hr:∀ x∈l,Zj x.row=true) (hw:ZU l<=1125899906842624) :
  Calls prog 170 #[v] w (Made w l):=by
 have C1:=fun W (hc:Chg (fun _=>False) w W)=>Sw (h.Zf hc) (by omega);have hv:=h;obtain ⟨A,cap,rfl,hn,hcap,hat⟩:=h;have HA:=Hd hat;have HL:=Hd hlen;have HR:=Hd hr;have HW:=Hd hw;have lQ:=Hd C1;clear hat hlen hr hw C1 hv
 go_enter func170,ntmps170
 go_wp2_with fail
 go_loopw [13] (fun i wr=>∃ (I:Nat),I<=l.length/\i = .int .i64 I/\Chg (fun _=>False) w wr) (fun i _=>l.length-(intOf i).toNat)
 case atStart=>exact ⟨0,Nat.zero_le _,rfl,Chg.refl _ _⟩
 case round =>
  obtain ⟨I,hI,rfl,hcw⟩:=hrel;by_cases hlt:I<l.length
  ·obtain ⟨b,off,rfl,_,hb,hx⟩:=HA.out (by omega);obtain ⟨x,ag⟩:∃ x,l[I]? = some x:=⟨_,List.getElem?_eq_getElem hlt⟩
   obtain ⟨⟨rv,p0,hrow⟩,p1,ha,hbb,_⟩:=hx I x ag;have q0:=hcw.cell p0 (fun h=>h);have q1:=hcw.cell p1 (fun h=>h);have hrr:=HR.out x (List.mem_of_getElem? ag)
   have hr1:∀ W,Chg (fun _=>False) w W->Calls prog 282 #[rv] W fun e w'=>e = .returned (.bool true)/\Chg (fun _=>False) W w':=fun W hc=>by
    have:=Jw (hrow.Zf hc)
    rwa [hrr] at this
   have hr2:∀ W,Calls prog 55 #[.complex .f64 (fl x.a) (fl x.b)] W fun e w'=>e = .returned (.bool true)/\Chg (fun _=>False) W w':=fun W=>Jv ha hbb W;obtain ⟨RA,aa,rfl,hr'⟩:=hrow;unfold tc at q1 p1;have hst:=ZD;clear ag hx p0 p1 hr' hrr ha hbb
   go_wp2_with fail
   refine (hr1 _ (hcw.trans ((Chg.refl _ wr).alloc _) fun _ _ h=>h)).mono ?_;rintro _ w2 ⟨rfl,hc2⟩;have hbk:w2.heap[wr.heap.size]? = some (.cells #[.slice RA x.row.length aa,.complex .f64 (fl x.a) (fl x.b)] 59 (0,0)):=hc2.heap (heap_alloc_new wr _) fun h=>h;obtain ⟨k0,k1,_,_⟩:=QU hbk
   go_wp2_with fail
   refine (hr2 _).mono ?_;rintro _ w3 ⟨rfl,hc3⟩
   go_wp2_with fail
   go_roundw
   case rel=>exact ⟨I+1,by omega,by go_num,((hcw.trans ((Chg.refl _ wr).alloc _) fun _ _ h=>h).trans hc2 fun _ _ h=>h).trans hc3 fun _ _ h=>h⟩
   case measure=>simp [intOf]; omega
  ·have hge:¬ ((I:Int)<(l.length:Int)):=by omega
   have hcl:=lQ.out _ hcw
   go_wp2_with fail
   refine hcl.mono ?_;rintro _ w2 ⟨_,rfl,⟨A2,cap2,ps,rfl,hc2,hps,hg,hok⟩,hcw2⟩;have hcw3:=hcw.trans hcw2 fun _ _ h=>h;by_cases h0:l.length=0
   ·have e0:l=[]:=List.eq_nil_of_length_eq_zero h0;have s1:=fun W=>ZbB (w:=W) (A:=A2) (c:=cap2) (f:=We);unfold We at s1;rw [h0]
    go_wp2_with fail
    refine (s1 _).mono ?_;rintro _ w3 ⟨rfl,hc3⟩
    go_wp2_with fail
    go_loopw [7,6] (fun x y wr=>x = .int .i64 0/\y = .slice none 0 0/\Chg (fun _=>False) w wr) (fun _ _ _=>0)
    case atStart=>exact ⟨rfl,rfl,hcw3.trans hc3 fun _ _ h=>h⟩
    case round =>
     obtain ⟨rfl,rfl,hc4⟩:=hrel
     go_wp2_with fail
     go_ret2
     subst e0;exact ⟨_,[],rfl,ZP.nil,fun r=>rfl,Nat.le_refl _,Zp.Xt _ _,hc4⟩
   ·obtain ⟨g,rfl,hgw,pQ⟩:=hg (by omega);have hpl:ps.length=l.length:=by rw [<- hps,List.length_map]
    have aX:RVs ps:=fun p hp=>ZZ (HR.out p.2 (by rw [<- hps]; exact List.mem_map_of_mem hp));have hL:=HL.out;have hso:=Sv (cap:=cap2) pQ hpl hc2 (by omega) hok (fun hh=>by have:=hh.2; have:=hcw.size; omega) aX;unfold We at hso;have gK:=Hd hps;have bF:=Hd hok;have jy:=Hd hpl;have abh:w.heap.size<=g:=by have:=hcw.size; omega
    clear hg pQ hpl aX hok hcl hL hps
    go_wp2_with fail
    refine hso.mono ?_;rintro _ w3 ⟨rfl,⟨qs,hA3,hperm,hsort⟩,hc3⟩;have aM:Chg (fun _=>False) w w3:=hcw3.trans hc3 fun i hi e=>by omega
    have hq:∀ p∈qs,POk (old wr F) w3 p:=fun p hp=>(bF.out p (hperm.mem_iff.1 hp)).chg hc3 fun b hb _ e=>by have:=hb.2; omega
    have rQ:∀ p∈qs,Zj p.2.row=true:=fun p hp=>HR.out p.2 (by rw [<- gK.out]; exact List.mem_map_of_mem (hperm.mem_iff.1 hp));have AQ:ZU (qs.map (·.2))<=1125899906842624:=by rw [ZbC (hperm.map _),gK.out]; exact HW.out
    have AR:∀ r,Qs (qs.map (·.2)) r=Qs l r:=fun r=>by rw [Sb (hperm.map _),gK.out]
    have mE:qs.length=l.length:=by rw [hperm.length_eq]; exact jy.out
    have HQ:=Hd hq;have rT:=Hd rQ;have AU:=Hd AQ;have HQN:=Hd AR;have mF:=Hd mE;have jL:=Hd hA3;have AV:=Hd hsort;clear hq rQ AQ AR mE hA3 hsort hperm bF jy gK HA lQ;obtain ⟨wq,hwq⟩:∃ x,x=wr:=⟨_,rfl⟩
    rw [<- hwq] at HQ;clear hwq hcw hcw2 hcw3 hc3 hso
    go_wp2_with fail
    go_loopw [7,6] (fun x y wr=>∃ (I:Nat) (own:Option Nat) (B:Option Addr) (c:Nat) (os:List PI) (S:List (List Vl×Int)),I<=l.length/\x = .int .i64 I/\y = .slice B S.length c/\Hid (os.map (·.2)=Zi S)/\Hid (Qw wr 59 2 own B S.length c (ZG os))/\Hid (∀ g',own=some g'->w3.heap.size<=g')/\Hid (∀ p∈os,POk (fun b=>w3.heap.size<=b/\own≠some b) wr p)/\Hid (ZP S)/\Hid (∀ r,nf S r=Qs ((qs.take I).map (·.2)) r)/\Hid (∀ p∈S,∀ z∈qs.drop I,Qv p.1 z.2.row<0)/\Hid (S.length<=I)/\Chg (fun _=>False) w3 wr) (fun x _ _=>l.length-(intOf x).toNat)
    case atStart=>exact ⟨0,none,none,0,[],[],Nat.zero_le _,rfl,rfl,Hd rfl,Hd (Qw.Xt _ _ _ _),Hd (fun g h=>by cases h),Hd (fun p h=>by cases h),Hd ZP.nil,Hd (fun r=>rfl),Hd (fun p h=>by cases h),Hd (Nat.le_refl _),Chg.refl _ _⟩
    case round =>
     obtain ⟨I,own,B,c,os,S,hI,rfl,rfl,HM,HO,HN,HP,HZ,xA,aD,iI,hcw⟩:=hrel;by_cases hlt:I<l.length
     ·obtain ⟨⟨fv,fx⟩,hf⟩:∃ p,qs[I]? = some p:=⟨_,List.getElem?_eq_getElem (by rw [mF.out]; exact hlt)⟩
      obtain ⟨d0,d1,_,_⟩:=(jL.out.Zf hcw).cells hf;have hfo:=HQ.out _ (List.mem_of_getElem? hf);have hfr:=rT.out _ (List.mem_of_getElem? hf);simp only at d0 d1 hfo hfr;obtain ⟨⟨FA,iy,qM,_⟩,_⟩:=id hfo;simp only at qM;subst qM;have kZ:=Hd hfo;have nV:=Hd hfr;have HF:=Hd hf;obtain ⟨wp,hwp⟩:∃ x,x=wr:=⟨_,rfl⟩
      subst hwp;clear hfo hfr hf
      go_wp2_with fail
      go_loopw [7,9] (fun x t wr=>∃ (J:Nat) (sm:Int),I<=J/\J<=l.length/\x = .int .i64 J/\t = .complex .f64 (fl sm.toNat) (fl (-sm).toNat)/\Hid (∀ p∈(qs.drop I).take (J-I),p.2.row=fx.row)/\Hid (sm=Vi ((qs.drop I).take (J-I)))/\Chg (fun _=>False) wp wr) (fun x _ _=>l.length-(intOf x).toNat)
      case atStart=>exact ⟨I,0,Nat.le_refl _,hI,rfl,(by rw [show ((0:Int)).toNat=0 from rfl,show (-(0:Int)).toNat=0 from rfl,XY]),Hd (fun p h=>by simp at h),Hd (by simp [Vi]),Chg.refl _ _⟩
      case round =>
       obtain ⟨J,sm,dI,hJ,rfl,rfl,lg,rU,hcp⟩:=hrel;have hb1:=E6 ((qs.drop I).take (J-I));have hb2:=H8 qs I (J-I);have hb3:=AU.out;rw [<- rU.out] at hb1;have hsl : -1125899906842624<=sm:=by omega
       have hsu:sm<=1125899906842624:=by omega
       have hcq:Chg (fun _=>False) w3 wr:=hcw.trans hcp fun _ _ h=>h;clear hb1 hb2 hb3;by_cases xB:J<l.length
       ·obtain ⟨⟨yv,yx⟩,hy⟩:∃ p,qs[J]? = some p:=⟨_,List.getElem?_eq_getElem (by rw [mF.out]; exact xB)⟩
        obtain ⟨e0,e1,_,_⟩:=(jL.out.Zf hcq).cells hy;have pU:=HQ.out _ (List.mem_of_getElem? hy);have xC:=rT.out _ (List.mem_of_getElem? hy);simp only at e0 e1 pU xC
        have hsame:∀ W,Chg (fun _=>False) w3 W->Calls prog 272 #[yv,.slice FA fx.row.length iy] W fun e w'=>e = .returned (.bool (decide (yx.row=fx.row)))/\Chg (fun _=>False) W w':=fun W hc=>by
         have:=SQ (pU.1.Zf hc) (kZ.out.1.Zf hc)
         rwa [LG xC nV.out] at this
        have hadd:∀ W,Calls prog 287 #[.complex .f64 (fl sm.toNat) (fl (-sm).toNat),.complex .f64 (fl yx.a) (fl yx.b)] W fun e w'=>e = .returned (SP (sm+yx.net))/\Chg (fun _=>False) W w':=fun W=>by
         have:=BU (a:=sm.toNat) (b:=(-sm).toNat) (c:=yx.a) (d:=yx.b) (by omega) (by omega) pU.2.1 pU.2.2.1 W
         rwa [show ((sm.toNat:Int)-((-sm).toNat:Int))+((yx.a:Int)-(yx.b:Int))=sm+yx.net by unfold Itm.net; omega] at this
        obtain ⟨⟨YA,abk,hyv,_⟩,_⟩:=pU;simp only at hyv;have HY:=Hd hy;clear hy xC;subst hyv;by_cases hs:yx.row=fx.row
        ·rw [decide_eq_true hs] at hsame
         have lh:sm+yx.net=Vi ((qs.drop I).take (J+1-I)):=by
          rw [CN dI HY.out,CM,<- rU.out];simp [Vi]
         have hb1:=E6 ((qs.drop I).take (J+1-I));have hb2:=H8 qs I (J+1-I);have hb3:=AU.out;rw [<- lh] at hb1
         have hsv:SP (sm+yx.net) = .tuple #[.complex .f64 (fl (sm+yx.net).toNat) (fl (-(sm+yx.net)).toNat),.bool true]:=by
          unfold SP;rw [if_pos ⟨by omega,by omega⟩];rfl
         rw [hsv] at hadd;have AX:=Hd lh
         have pV:=Hd (show ∀ p∈(qs.drop I).take (J+1-I),p.2.row=fx.row from fun p hp=>by
          rw [CN dI HY.out] at hp;rcases List.mem_append.1 hp with hp | hp
          ·exact lg.out p hp
          ·rw [List.mem_singleton.1 hp]; exact hs)
         clear hsv lh hb1 hb2 hb3 hs;obtain ⟨s2,hs2⟩:∃ x,sm+yx.net=x:=⟨_,rfl⟩
         rw [hs2] at hadd AX;clear hs2
         go_wp2_with fail
         refine (hsame _ hcq).mono ?_;rintro _ w5 ⟨rfl,bK⟩;have e1:=bK.cell e1 (fun h=>h)
         go_wp2_with fail
         refine (hadd _).mono ?_;rintro _ w6 ⟨rfl,hc6⟩
         go_wp2_with fail
         go_roundw
         case rel=>exact ⟨J+1,s2,by omega,by omega,by go_num,rfl,pV,AX,(hcp.trans bK fun _ _ h=>h).trans hc6 fun _ _ h=>h⟩
         case measure=>simp [intOf]; omega
        ·rw [decide_eq_false hs] at hsame;have pG:=Hd hs;clear hs
         go_wp2_with fail
         refine (hsame _ hcq).mono ?_;rintro _ w5 ⟨rfl,bK⟩;clear hsame hadd
         have xD:I<J:=(by
          rcases Nat.lt_or_ge I J with h | h
          ·exact h
          ·exfalso;have e:J=I:=by omega
           have h2:=HY.out;rw [e,HF.out] at h2;injection h2 with h2
           injection h2 with h3 h4
           exact pG.out (by rw [h4]))
         have HG:=Hd (Nv AV.out (fun p hp=>ZZ (rT.out p hp)) HF.out dI fun y hy2=>by rw [HY.out] at hy2; cases hy2; exact pG.out);have iA:=Hd (show ∀ r,Qs ((qs.take J).map (·.2)) r=nf S r+(if fx.row=r then sm else 0) from fun r=>by rw [CO dI,List.map_append,Z9,<- xA.out r,E5 lg.out r,<- rU.out]);have iB:=Hd (show ∀ p∈S,∀ z∈qs.drop J,Qv p.1 z.2.row<0 from fun p hp z hz=>aD.out p hp z (by rw [show J=I+(J-I) by omega,<- List.drop_drop] at hz; exact List.mem_of_mem_drop hz));have dX:=Hd (show S.length<=J by have:=iI.out; omega);have hcz:Chg (fun _=>False) wp w5:=hcp.trans bK fun _ _ h=>h;have ll:=Hd (HO.out.chg hcz fun _ _ h=>h);have pW:=Hd (fun p hp=>(HP.out p hp).chg hcz fun _ _ _ h=>h);have cK:=hcw.trans hcz fun _ _ h=>h;by_cases hz0:sm=0
         ·have hq0:∀ U,(binOp .neq 57 (.complex .f64 (fl sm.toNat) (fl (-sm).toNat)) (.complex .f64 0 0)).run prog U = .ok (.bool false) U:=fun U=>by
           have:=Kj (P:=prog) (a:=sm.toNat) (b:=(-sm).toNat) (c:=0) (d:=0) (by omega) (by omega) (by omega) (by omega) 57 U;rw [XY] at this;rw [this,hz0];rfl
          have lq:=Hd (show ∀ r,nf S r=Qs ((qs.take J).map (·.2)) r from fun r=>by rw [iA.out r,hz0]; simp);clear hz0
          go_wp2_with fail
          go_roundw
          case rel=>exact ⟨J,own,B,c,os,S,hJ,rfl,rfl,HM,ll,HN,pW,HZ,lq,iB,dX,cK⟩
          case measure=>simp [intOf]; omega
         ·have hq0:∀ U,(binOp .neq 57 (.complex .f64 (fl sm.toNat) (fl (-sm).toNat)) (.complex .f64 0 0)).run prog U = .ok (.bool true) U:=fun U=>by
           have:=Kj (P:=prog) (a:=sm.toNat) (b:=(-sm).toNat) (c:=0) (d:=0) (by omega) (by omega) (by omega) (by omega) 57 U;rw [XY] at this;rw [this]
           congr 2
           by_cases e:sm.toNat=0
           ·have:(-sm).toNat≠0:=by omega
            simp [e,this]
           ·simp [e]
          have hit:∀ U,Chg (fun _=>False) w3 U->Calls prog 54 #[.slice FA fx.row.length iy,.complex .f64 (fl sm.toNat) (fl (-sm).toNat)] U (Neu U fun u w'=>∃ rv,u = .agg #[rv,.complex .f64 (fl sm.toNat) (fl (-sm).toNat)]/\Zm (new U) w' rv fx.row):=fun U hc =>
           WI (a:=sm.toNat) (b:=(-sm).toNat) (kZ.out.1.Zf hc) kZ.out.2.2.2
          have HB:=Hd kZ.out.2.2.2;have HZ0:=Hd hz0;have pX:=Hd (And.intro hsl hsu);clear hz0
          go_wp2_with fail
          refine (hit _ cK).mono ?_;rintro _ w7 ⟨u,rfl,⟨rv,rfl,aX⟩,dV⟩;have bH:=aX;obtain ⟨bI,aj,rfl,_⟩:=aX;have xE:=Hd bH;clear bH hit;have H1:=Hd (X0 w7 (.slice bI fx.row.length aj) (.complex .f64 (fl sm.toNat) (fl (-sm).toNat)) 59);have bQ:=Hd (ll.out.chg (dV.alloc (.cells #[.slice bI fx.row.length aj,.complex .f64 (fl sm.toNat) (fl (-sm).toNat)] 59)) fun _ _ h=>h)
          go_wp2_with (at_builtin; refine ZA rfl _ _ 45 45 rfl 59 2 40 Vm own _ S.length c 1 (ZG os) [.slice bI fx.row.length aj,.complex .f64 (fl sm.toNat) (fl (-sm).toNat)] _ rfl rfl bQ.out (XK.slice H1.out) (by simp [Value.oneCell']) (S.length+1) rfl ?_ ?_ ?_)
          ·have:=HL.out; have:=dX.out; omega
          ·have:=HL.out; have:=dX.out; omega
          ·intro own' B' c' w8 hown hor ae;have dM:=Hd hown;clear hown
           go_wp2_with fail
           go_roundw
           case rel =>
            have hc8:Chg (fun _=>False) w3 w8:=((cK.trans dV fun _ _ h=>h).alloc _).trans ae fun i hi hg=>by have:=HN.out i hg; omega
            have dE:Chg (fun b=>own=some b) w7 w8:=((Chg.refl _ w7).alloc _).trans ae fun i hi hg=>hg;have hsz:=dV.size;have iM:=cK.size
            have hlt3:∀ b,b<w7.heap.size->own≠some b->own'≠some b:=fun b hb hne=>by
             rcases hor with h0 | h0
             ·rw [h0]; exact hne
             ·rw [h0]; simp; omega
            refine ⟨J,own',B',c',os++[(.slice bI fx.row.length aj,ZB (fx.row,sm))],S++[(fx.row,sm)],hJ,rfl,(by rw [List.length_append]; rfl),Hd ?_,Hd ?_,Hd fun g' hg' => ?_,Hd fun p hp => ?_,Hd (HZ.out.snoc nV.out HZ0.out fun p hp=>aD.out p hp (.slice FA fx.row.length iy,fx) (by rw [List.mem_iff_getElem?]; exact ⟨0,by rw [List.getElem?_drop,Nat.add_zero]; exact HF.out⟩)),Hd fun r => ?_,Hd fun p hp z hz => ?_,Hd ?_,hc8⟩
            ·rw [List.map_append,HM.out]; simp [Zi]
            ·rw [Jd,List.length_append]; exact dM.out
            ·rcases hor with h0 | h0
             ·exact HN.out g' (h0▸hg')
             ·rw [h0] at hg';simp at hg';omega
            ·rcases List.mem_append.1 hp with hp | hp
             ·exact (((pW.out p hp).mono (G:=fun b=>(w3.heap.size<=b/\own≠some b)/\own'≠some b) fun b hb hlt=>⟨hb,hlt3 b (by omega) hb.2⟩).chg ((dV.mono (T':=fun b=>own=some b) fun _ _ h=>h.elim).trans dE fun _ _ h=>h) fun b hb _ he=>hb.1.2 he).mono fun b hb _=>⟨hb.1.1,hb.2⟩
             ·rw [List.mem_singleton.1 hp];refine ⟨?_,by have:=pX.out; simp only [ZB]; omega,by have:=pX.out; simp only [ZB]; omega,HB.out⟩;refine ((xE.out.mono (G:=fun b=>(w3.heap.size<=b/\own≠some b)/\own'≠some b) fun b hb hlt => ?_).chg dE fun b hb _ he=>hb.1.2 he).mono fun b hb _=>⟨hb.1.1,hb.2⟩
              have hb':w5.heap.size<=b:=hb;have hne:own≠some b:=fun he=>by have:=ll.out.lt he; omega
              exact ⟨⟨by omega,hne⟩,hlt3 b hlt hne⟩
            ·rw [Sr,iA.out r]; simp [nf]
            ·rcases List.mem_append.1 hp with hp | hp
             ·exact iB.out p hp z hz
             ·rw [List.mem_singleton.1 hp]; exact HG.out z hz
            ·rw [List.length_append];have:=iI.out;simp only [List.length_cons,List.length_nil];omega
           case measure=>simp [intOf]; omega
       ·have abl:¬ ((J:Int)<(l.length:Int)):=by omega
        have xD:I<J:=by omega
        have HG:=Hd (Nv AV.out (fun p hp=>ZZ (rT.out p hp)) HF.out dI fun y hy2=>by have:=(List.getElem?_eq_some_iff.1 hy2).1; rw [mF.out] at this; omega);have iA:=Hd (show ∀ r,Qs ((qs.take J).map (·.2)) r=nf S r+(if fx.row=r then sm else 0) from fun r=>by rw [CO dI,List.map_append,Z9,<- xA.out r,E5 lg.out r,<- rU.out]);have iB:=Hd (show ∀ p∈S,∀ z∈qs.drop J,Qv p.1 z.2.row<0 from fun p hp z hz=>aD.out p hp z (by rw [show J=I+(J-I) by omega,<- List.drop_drop] at hz; exact List.mem_of_mem_drop hz));have dX:=Hd (show S.length<=J by have:=iI.out; omega);have hcz:Chg (fun _=>False) wp wr:=hcp;have ll:=Hd (HO.out.chg hcz fun _ _ h=>h);have pW:=Hd (fun p hp=>(HP.out p hp).chg hcz fun _ _ _ h=>h);have cK:=hcw.trans hcz fun _ _ h=>h;by_cases hz0:sm=0
        ·have hq0:∀ U,(binOp .neq 57 (.complex .f64 (fl sm.toNat) (fl (-sm).toNat)) (.complex .f64 0 0)).run prog U = .ok (.bool false) U:=fun U=>by
          have:=Kj (P:=prog) (a:=sm.toNat) (b:=(-sm).toNat) (c:=0) (d:=0) (by omega) (by omega) (by omega) (by omega) 57 U;rw [XY] at this;rw [this,hz0];rfl
         have lq:=Hd (show ∀ r,nf S r=Qs ((qs.take J).map (·.2)) r from fun r=>by rw [iA.out r,hz0]; simp);clear hz0
         go_wp2_with fail
         go_roundw
         case rel=>exact ⟨J,own,B,c,os,S,hJ,rfl,rfl,HM,ll,HN,pW,HZ,lq,iB,dX,cK⟩
         case measure=>simp [intOf]; omega
        ·have hq0:∀ U,(binOp .neq 57 (.complex .f64 (fl sm.toNat) (fl (-sm).toNat)) (.complex .f64 0 0)).run prog U = .ok (.bool true) U:=fun U=>by
          have:=Kj (P:=prog) (a:=sm.toNat) (b:=(-sm).toNat) (c:=0) (d:=0) (by omega) (by omega) (by omega) (by omega) 57 U;rw [XY] at this;rw [this]
          congr 2
          by_cases e:sm.toNat=0
          ·have:(-sm).toNat≠0:=by omega
           simp [e,this]
          ·simp [e]
         have hit:∀ U,Chg (fun _=>False) w3 U->Calls prog 54 #[.slice FA fx.row.length iy,.complex .f64 (fl sm.toNat) (fl (-sm).toNat)] U (Neu U fun u w'=>∃ rv,u = .agg #[rv,.complex .f64 (fl sm.toNat) (fl (-sm).toNat)]/\Zm (new U) w' rv fx.row):=fun U hc =>
          WI (a:=sm.toNat) (b:=(-sm).toNat) (kZ.out.1.Zf hc) kZ.out.2.2.2
         have HB:=Hd kZ.out.2.2.2;have HZ0:=Hd hz0;have pX:=Hd (And.intro hsl hsu);clear hz0
         go_wp2_with fail
         refine (hit _ cK).mono ?_;rintro _ w7 ⟨u,rfl,⟨rv,rfl,aX⟩,dV⟩;have bH:=aX;obtain ⟨bI,aj,rfl,_⟩:=aX;have xE:=Hd bH;clear bH hit;have H1:=Hd (X0 w7 (.slice bI fx.row.length aj) (.complex .f64 (fl sm.toNat) (fl (-sm).toNat)) 59);have bQ:=Hd (ll.out.chg (dV.alloc (.cells #[.slice bI fx.row.length aj,.complex .f64 (fl sm.toNat) (fl (-sm).toNat)] 59)) fun _ _ h=>h)
         go_wp2_with (at_builtin; refine ZA rfl _ _ 45 45 rfl 59 2 40 Vm own _ S.length c 1 (ZG os) [.slice bI fx.row.length aj,.complex .f64 (fl sm.toNat) (fl (-sm).toNat)] _ rfl rfl bQ.out (XK.slice H1.out) (by simp [Value.oneCell']) (S.length+1) rfl ?_ ?_ ?_)
         ·have:=HL.out; have:=dX.out; omega
         ·have:=HL.out; have:=dX.out; omega
         ·intro own' B' c' w8 hown hor ae;have dM:=Hd hown;clear hown
          go_wp2_with fail
          go_roundw
          case rel =>
           have hc8:Chg (fun _=>False) w3 w8:=((cK.trans dV fun _ _ h=>h).alloc _).trans ae fun i hi hg=>by have:=HN.out i hg; omega
           have dE:Chg (fun b=>own=some b) w7 w8:=((Chg.refl _ w7).alloc _).trans ae fun i hi hg=>hg;have hsz:=dV.size;have iM:=cK.size
           have hlt3:∀ b,b<w7.heap.size->own≠some b->own'≠some b:=fun b hb hne=>by
            rcases hor with h0 | h0
            ·rw [h0]; exact hne
            ·rw [h0]; simp; omega
           refine ⟨J,own',B',c',os++[(.slice bI fx.row.length aj,ZB (fx.row,sm))],S++[(fx.row,sm)],hJ,rfl,(by rw [List.length_append]; rfl),Hd ?_,Hd ?_,Hd fun g' hg' => ?_,Hd fun p hp => ?_,Hd (HZ.out.snoc nV.out HZ0.out fun p hp=>aD.out p hp (.slice FA fx.row.length iy,fx) (by rw [List.mem_iff_getElem?]; exact ⟨0,by rw [List.getElem?_drop,Nat.add_zero]; exact HF.out⟩)),Hd fun r => ?_,Hd fun p hp z hz => ?_,Hd ?_,hc8⟩
           ·rw [List.map_append,HM.out]; simp [Zi]
           ·rw [Jd,List.length_append]; exact dM.out
           ·rcases hor with h0 | h0
            ·exact HN.out g' (h0▸hg')
            ·rw [h0] at hg';simp at hg';omega
           ·rcases List.mem_append.1 hp with hp | hp
            ·exact (((pW.out p hp).mono (G:=fun b=>(w3.heap.size<=b/\own≠some b)/\own'≠some b) fun b hb hlt=>⟨hb,hlt3 b (by omega) hb.2⟩).chg ((dV.mono (T':=fun b=>own=some b) fun _ _ h=>h.elim).trans dE fun _ _ h=>h) fun b hb _ he=>hb.1.2 he).mono fun b hb _=>⟨hb.1.1,hb.2⟩
            ·rw [List.mem_singleton.1 hp];refine ⟨?_,by have:=pX.out; simp only [ZB]; omega,by have:=pX.out; simp only [ZB]; omega,HB.out⟩;refine ((xE.out.mono (G:=fun b=>(w3.heap.size<=b/\own≠some b)/\own'≠some b) fun b hb hlt => ?_).chg dE fun b hb _ he=>hb.1.2 he).mono fun b hb _=>⟨hb.1.1,hb.2⟩
             have hb':wr.heap.size<=b:=hb;have hne:own≠some b:=fun he=>by have:=ll.out.lt he; omega
             exact ⟨⟨by omega,hne⟩,hlt3 b hlt hne⟩
           ·rw [Sr,iA.out r]; simp [nf]
           ·rcases List.mem_append.1 hp with hp | hp
            ·exact iB.out p hp z hz
            ·rw [List.mem_singleton.1 hp]; exact HG.out z hz
           ·rw [List.length_append];have:=iI.out;simp only [List.length_cons,List.length_nil];omega
          case measure=>simp [intOf]; omega
     ·have hge:¬ ((I:Int)<(l.length:Int)):=by omega
      go_wp2_with fail
      go_ret2
      have e:qs.take I=qs:=List.take_of_length_le (by rw [mF.out]; omega);refine ⟨_,S,rfl,HZ.out,fun r=>by rw [xA.out r,e,HQN.out r],by have:=iI.out; omega,?_,aM.trans hcw fun _ _ h=>h⟩;have:=Zp.My (F:=new w) (HO.out.cs.mono fun g hg _=>by have:=HN.out g hg; have:=aM.size; show w.heap.size<=g; omega) (by rw [<- List.length_map (f:=fun p:PI=>p.2),HM.out,Zu]) HO.out.fits HO.out.WG fun p hp=>(HP.out p hp).mono fun b hb _=>by have:=hb.1; have:=aM.size; show w.heap.size<=b; omega
      rwa [HM.out] at this
end
section
open Go.RowKit
theorem UO {w:World} {n:Nat} (hn:n<=1000000) :
  Calls prog 288 #[.slice none 0 0,.int .i64 (n:Int)] w fun e w'=>∃ own A cap,e = .returned (.slice A 0 cap)/\Qw w' 59 2 own A 0 cap []/\(∀ g,own=some g->w.heap.size<=g)/\Chg (fun _=>False) w w':=by
 have HN:=Hd hn;have hw:IntKind.i64.wrap (n:Int)=(n:Int):=IntWalk.i64_in _ (by omega);clear hn;rcases Nat.eq_zero_or_pos n with h0 | h0
 ·subst h0
  go_enter func288,ntmps288
  go_wp2_with fail
  go_ret
  exact ⟨none,none,0,rfl,Qw.Xt _ _ _ _,fun g h=>(by cases h),Chg.refl _ _⟩
 ·obtain ⟨i,hi,hz,hs,hb⟩:=info_parts (P:=prog) (e:=59) (z := .agg #[.slice none 0 0,.complex .f64 0 0]) (size:=2) (bytes:=40) (by kernel_rfl);have hN:=HN.out;have happ:=Lib.run_append_nil_zeros (P:=prog) w 45 3 45 59 i (.agg #[.slice none 0 0,.complex .f64 0 0]) .i64 .i64 underlying45 (by kernel_rfl) hi hz n h0 (by omega) (by omega) (by rw [hb]; omega);have hge:=grownCap_ge w n 0 59;have hcm:=grownCap_le_maxLen w n 0 59 (by simp only [maxLen]; omega);obtain ⟨gc,hgc⟩:∃ x,grownCap w n 0 59=x:=⟨_,rfl⟩
  rw [hgc] at happ hge hcm;have iK:=Hd happ;have HCM:=Hd hcm;clear happ hcm hN hgc
  go_enter func288,ntmps288
  go_wp2_with (at_builtin; refine Lib.wpList_append_run _ rfl _ _ _ _ rfl _ _ rfl rfl _ _ iK.out ?_)
  go_ret
  refine ⟨some w.heap.size,_,_,rfl,⟨rfl,Nat.zero_le _,.inr ⟨w.heap.size,_,rfl,rfl,heap_alloc_new w _,?_,HCM.out,by simp⟩⟩,fun g hg=>by injection hg with hg; omega,((Chg.refl _ w).alloc _).drew⟩;simp only [Array.size_append,size_zeroCells];show gc*2<=n*2+(gc-n)*2;omega
def Zjm (F G:Nat->Prop) (w:World) (l m:List Itm) (u:Value) (w':World):Prop :=
 Zp (fun b=>new w b\/(F b\/G b)/\b<w.heap.size) w' u (l++m)
theorem FD {F G:Nat->Prop} {w:World} {B:Nat} {va vb:Value} {l m:List Itm} (hB:w.heap[B]? = some (.cells #[va,vb] 45 (0,0))) (hl:Zp F w va l) (hm:Zp G w vb m) (h1:l.length<=4096) (h2:m.length<=4096) :
  Calls prog 171 #[.slice (some ⟨B,0,none⟩) 2 2] w (Neu w (Zjm F G w l m)):=by
 obtain ⟨A1,c1,ps,rfl,l1,l2,hps,hcs,hpo⟩:=hl.Zcq;obtain ⟨A2,c2,qs,rfl,m1,m2,xG,hds,hqo⟩:=hm.Zcq;have hpl:ps.length=l.length:=by rw [<- hps,List.length_map]
 have mE:qs.length=m.length:=by rw [<- xG,List.length_map]
 obtain ⟨k0,k1,_,_⟩:=QU hB;have j0:=k0;have j1:=k1;have hg:=fun W (n:Nat) (h:n<=1000000)=>UO (w:=W) h;have HG:=Hd hg;have HB:=Hd hB;have gK:=Hd hps;have HQS:=Hd xG;have qm:=Hd hcs;have AY:=Hd hds;have HPO:=Hd (fun p hp=>(hpo p hp).mono (G:=fun b=>new w b\/(F b\/G b)/\b<w.heap.size) fun b hb hlt => .inr ⟨.inl hb,hlt⟩);have HQO:=Hd (fun p hp=>(hqo p hp).mono (G:=fun b=>new w b\/(F b\/G b)/\b<w.heap.size) fun b hb hlt => .inr ⟨.inr hb,hlt⟩);have HP1:=Hd (Y5 hpo);have HQ1:=Hd (Y5 hqo);obtain ⟨L,hL⟩:∃ x,l.length=x:=⟨_,rfl⟩
 obtain ⟨M,hM⟩:∃ x,m.length=x:=⟨_,rfl⟩
 rw [hL] at qm h1 l1 hpl k0 j0;rw [hM] at AY h2 m1 mE k1 j1;have jy:=Hd hpl;have mF:=Hd mE;have H1:=Hd h1;have H2:=Hd h2;have HLL:=Hd hL;have HMM:=Hd hM;have v1:IntKind.i64.wrap (L:Int)=(L:Int):=IntWalk.i64_in _ (by omega);have v2:IntKind.i64.wrap ((L:Int)+(M:Int))=((L+M:Nat):Int):=by rw [show (L:Int)+(M:Int)=((L+M:Nat):Int) by omega]; exact IntWalk.i64_in _ (by omega)
 obtain ⟨LM,xH⟩:∃ x,L+M=x:=⟨_,rfl⟩
 rw [xH] at v2;have v3:¬ ((LM:Int)<0):=by omega
 have v4:¬ ((L:Int)<0):=by omega
 have pY:=Hd xH;clear hps xG hcs hds hpo hqo hpl mE h1 h2 hB hl hm hg hL hM xH
 go_enter func171,ntmps171
 go_wp2_with fail
 go_loopw [11,3] (fun i s wr=>Chg (fun _=>False) w wr/\((i = .int .i64 0/\s = .int .i64 0)\/(i = .int .i64 1/\s = .int .i64 L)\/(i = .int .i64 2/\s = .int .i64 LM))) (fun i _ _=>2-(intOf i).toNat)
 case atStart=>exact ⟨Chg.refl _ _,.inl ⟨rfl,rfl⟩⟩
 case round =>
  obtain ⟨hc0,⟨rfl,rfl⟩ | ⟨rfl,rfl⟩ | ⟨rfl,rfl⟩⟩:=hrel
  all_goals
   have k0:=hc0.cell k0 (fun h=>h);have k1:=hc0.cell k1 (fun h=>h)
  ·go_wp2_with fail
   go_roundw
   case rel=>exact ⟨hc0,.inr (.inl ⟨rfl,rfl⟩)⟩
   case measure=>simp [intOf]
  ·go_wp2_with fail
   go_roundw
   case rel=>exact ⟨hc0,.inr (.inr ⟨rfl,rfl⟩)⟩
   case measure=>simp [intOf]
  ·have hgl:=HG.out wr LM (by have:=H1.out; have:=H2.out; have:=pY.out; omega)
   go_wp2_with fail
   refine hgl.mono ?_;rintro _ w1 ⟨own,A,cap,rfl,hown,hnew,hc1⟩;have HO:=Hd hown;have HN:=Hd (fun g hg=>Nat.le_trans hc0.size (hnew g hg));have AZ:=hc0.trans hc1 fun _ _ h=>h;clear hown hnew hgl;obtain ⟨wp,hwp⟩:∃ x,x=wr:=⟨_,rfl⟩
   subst hwp
   go_wp2_with fail
   go_loopw [27,6] (fun i s wr=>∃ (own:Option Nat) (A:Option Addr) (cap:Nat),((i = .int .i64 0/\s = .slice A 0 cap/\Hid (Qw wr 59 2 own A 0 cap []))\/(i = .int .i64 1/\s = .slice A L cap/\Hid (Qw wr 59 2 own A L cap (ZG ps)))\/(i = .int .i64 2/\s = .slice A LM cap/\Hid (Qw wr 59 2 own A LM cap (ZG ps++ZG qs))))/\Hid (∀ g,own=some g->w.heap.size<=g)/\Chg (fun _=>False) w wr) (fun i _ _=>2-(intOf i).toNat)
   case atStart=>exact ⟨own,A,cap,.inl ⟨rfl,rfl,HO⟩,HN,AZ⟩
   case round =>
    clear HO HN hc1 AZ;obtain ⟨own,A,cap,hor,HN,hcw⟩:=hrel;have k0:=hcw.cell j0 (fun h=>h);have k1:=hcw.cell j1 (fun h=>h);rcases hor with ⟨rfl,rfl,HO⟩ | ⟨rfl,rfl,HO⟩ | ⟨rfl,rfl,HO⟩
    ·have HC:=Hd (qm.out.chg hcw fun _ _ _ h=>h)
     go_wp2_with (at_builtin; refine ZA rfl _ _ 45 45 rfl 59 2 40 Vm own _ 0 cap L [] (ZG ps) _ rfl rfl HO.out (XK.slice HC.out) HP1.out L ?_ ?_ ?_ ?_)
     ·exact Nat.zero_add _
     ·have:=H1.out; omega
     ·have:=H1.out; omega
     ·intro own' A' cap' w2 hown hor ae;have bQ:=Hd hown;clear hown
      go_wp2_with fail
      go_roundw
      case rel =>
       refine ⟨own',A',cap',.inr (.inl ⟨rfl,rfl,bQ⟩),Hd fun g hg => ?_,hcw.trans ae fun i hi hg=>by have:=HN.out i hg; omega⟩;rcases hor with h0 | h0
       ·exact HN.out g (h0▸hg)
       ·rw [h0] at hg; injection hg with hg; have:=hcw.size; omega
      case measure=>simp [intOf]
    ·have HC:=Hd (AY.out.chg hcw fun _ _ _ h=>h)
     go_wp2_with (at_builtin; refine ZA rfl _ _ 45 45 rfl 59 2 40 Vm own _ L cap M (ZG ps) (ZG qs) _ rfl rfl HO.out (XK.slice HC.out) HQ1.out LM ?_ ?_ ?_ ?_)
     ·exact pY.out
     ·have:=H1.out; have:=H2.out; have:=pY.out; omega
     ·have:=H1.out; have:=H2.out; have:=pY.out; omega
     ·intro own' A' cap' w2 hown hor ae;have bQ:=Hd hown;clear hown
      go_wp2_with fail
      go_roundw
      case rel =>
       refine ⟨own',A',cap',.inr (.inr ⟨rfl,rfl,bQ⟩),Hd fun g hg => ?_,hcw.trans ae fun i hi hg=>by have:=HN.out i hg; omega⟩;rcases hor with h0 | h0
       ·exact HN.out g (h0▸hg)
       ·rw [h0] at hg; injection hg with hg; have:=hcw.size; omega
      case measure=>simp [intOf]
    ·go_wp2_with fail
     go_ret
     refine ⟨_,rfl,?_,hcw⟩;have he:ZG ps++ZG qs=ZG (ps++qs):=by simp [ZG]
     have hO:=HO.out;rw [he] at hO
     have hs:=Zp.My (F:=fun b=>new w b\/(F b\/G b)/\b<w.heap.size) (hO.cs.mono fun g hg _ => .inl (HN.out g hg)) (by rw [List.length_append,jy.out,mF.out]; exact pY.out.symm) hO.fits hO.WG fun p hp=>by
      rcases List.mem_append.1 hp with hp | hp
      ·exact (HPO.out p hp).chg hcw fun _ _ _ h=>h
      ·exact (HQO.out p hp).chg hcw fun _ _ _ h=>h
     rw [List.map_append,gK.out,HQS.out] at hs;exact hs
theorem Tc {F G:Nat->Prop} {w:World} {va vb:Value} {l m:List Itm} (hl:Zp F w va l) (hm:Zp G w vb m) (h1:l.length<=2048) (h2:m.length<=2048) (r1:∀ x∈l,Zj x.row=true) (r2:∀ x∈m,Zj x.row=true) (hw:ZU l+ZU m<=1125899906842624) :
  Calls prog 112 #[va,vb] w (Made w (l++m)):=by
 have hd:Chg (fun _=>False) w (w.alloc (.cells #[va,vb] 45)):=(Chg.refl _ w).alloc _;have hc:=FD (heap_alloc_new w (.cells #[va,vb] 45)) (hl.Zf hd) (hm.Zf hd) (by omega) (by omega);obtain ⟨A1,c1,rfl,_⟩:=hl;obtain ⟨A2,c2,rfl,_⟩:=hm;have HM:=Hd (fun W u (h:Zp (fun b=>new (w.alloc (.cells #[.slice A1 l.length c1,.slice A2 m.length c2] 45)) b\/(F b\/G b)/\b<(w.alloc (.cells #[.slice A1 l.length c1,.slice A2 m.length c2] 45)).heap.size) W u (l++m))=>M8 h (by rw [List.length_append]; omega) (fun x hx=>by rcases List.mem_append.1 hx with hx | hx; exact r1 x hx; exact r2 x hx) (by rw [KO]; exact hw));clear h1 h2 r1 r2 hw
 go_enter func112,ntmps112
 go_wp2_with fail
 refine hc.mono ?_;rintro _ w1 ⟨u,rfl,hu,hc1⟩;have hmk:=HM.out w1 u hu;clear hu hc HM
 go_wp2_with fail
 refine hmk.mono ?_;rintro _ w2 ⟨u2,S,rfl,hz,hnf,hsl,hset,hc2⟩
 go_wp2_with fail
 go_ret2
 have hcc:=(hd.trans hc1 fun _ _ h=>h)
 exact ⟨u2,S,rfl,hz,hnf,hsl,hset.mono fun b hb _=>by have h:w1.heap.size<=b:=hb; have:=hcc.size; show w.heap.size<=b; omega,hcc.trans hc2 fun _ _ h=>h⟩
end
section
open Go.RowKit
def Xh (S:List (List Vl×Int)):List (List Vl×Int):=S.map fun p=>(p.1,-p.2)
theorem Nw (r:List Vl) (n:Int):ZB (r,-n)=⟨r,(-n).toNat,n.toNat⟩:=by unfold ZB; simp
theorem Cj {F:Nat->Prop} {w:World} {v:Value} {l:List (List Vl×Int)} (h:Zp F w v (Zi l)) (hz:ZR l) (hlen:l.length<=4096) :
  Calls prog 113 #[v] w (Neu w fun u w'=>Zp (new w) w' u (Zi (Xh l))):=by
 have hr:=J7 h hz;obtain ⟨A,cap,rfl,hn,hcap,hat⟩:=h;rw [Zu] at hn hat hr ⊢;have HA:=Hd hat;have HL:=Hd hlen;have HZ:=Hd hz;clear hat hlen hz
 go_enter func113,ntmps113
 go_wp2_with fail
 refine hr.mono ?_;rintro _ w1 ⟨rfl,hc1⟩;clear hr
 go_wp2_with fail
 go_loopw [11,3] (fun i s wr=>∃ (I:Nat) (own:Option Nat) (B:Option Addr) (c:Nat) (ps:List PI),I<=l.length/\i = .int .i64 I/\s = .slice B I c/\Hid (ps.map (·.2)=Zi (Xh (l.take I)))/\Hid (Qw wr 59 2 own B I c (ZG ps))/\Hid (∀ g,own=some g->w.heap.size<=g)/\Hid (∀ p∈ps,POk (fun b=>w.heap.size<=b/\own≠some b) wr p)/\Chg (fun _=>False) w wr) (fun i _ _=>l.length-(intOf i).toNat)
 case atStart=>exact ⟨0,none,none,0,[],Nat.zero_le _,rfl,rfl,Hd (by simp [Xh,Zi]),Hd (Qw.Xt _ _ _ _),Hd (fun g h=>by cases h),Hd (fun p h=>by cases h),hc1⟩
 case round =>
  obtain ⟨I,own,B,c,ps,hI,rfl,rfl,HM,HO,HN,HP,hcw⟩:=hrel;by_cases hlt:I<l.length
  ·obtain ⟨b,off,rfl,_,hb,hx⟩:=HA.out (by omega);obtain ⟨⟨r,n⟩,ag⟩:∃ x,l[I]? = some x:=⟨_,List.getElem?_eq_getElem hlt⟩
   obtain ⟨⟨rv,p0,hrow⟩,p1,_,_,hrl⟩:=hx I (ZB (r,n)) (MJ ag);simp only [ZB] at hrow p1 hrl;obtain ⟨hn0,hnl,hnu⟩:=HZ.out.net _ (List.mem_of_getElem? ag);simp only at hn0 hnl hnu;have q0:=hcw.cell p0 (fun h=>h);have q1:=hcw.cell p1 (fun h=>h);have hit:∀ W,Chg (fun _=>False) w W->Calls prog 54 #[rv,.complex .f64 (fl (-n).toNat) (fl n.toNat)] W (Neu W fun u w'=>∃ rv,u = .agg #[rv,.complex .f64 (fl (-n).toNat) (fl n.toNat)]/\Zm (new W) w' rv r):=fun W hc=>WI (a:=(-n).toNat) (b:=n.toNat) (hrow.Zf hc) hrl;have hfl:∀ W,Calls prog 173 #[.complex .f64 (fl n.toNat) (fl (-n).toNat)] W fun e w'=>e = .returned (.complex .f64 (fl (-n).toNat) (fl n.toNat))/\Chg (fun _=>False) W w':=fun W=>Ds (by omega) (by omega) W;obtain ⟨RA,aa,rfl,_⟩:=hrow;unfold tc at q1 p1;have hst:=ZD;have HX:=Hd ag;have HB:=Hd (And.intro hnl (And.intro hnu hrl));clear ag hx p0 p1 hrl
   go_wp2_with fail
   have hcd:Chg (fun _=>False) w ((wr.alloc (.cells #[.slice RA r.length aa,.complex .f64 (fl n.toNat) (fl (-n).toNat)] 59)).drew):=(hcw.alloc _).drew;have dZ:((wr.alloc (.cells #[.slice RA r.length aa,.complex .f64 (fl n.toNat) (fl (-n).toNat)] 59)).drew).cell? ⟨wr.heap.size,0,none⟩=some (.slice RA r.length aa):=by go_simp
   have ed:((wr.alloc (.cells #[.slice RA r.length aa,.complex .f64 (fl n.toNat) (fl (-n).toNat)] 59)).drew).cell? ⟨wr.heap.size,1,none⟩=some (.complex .f64 (fl n.toNat) (fl (-n).toNat)):=by go_simp
   refine Zh [2,4] (S:=fun wx=>wx.cell? ⟨wr.heap.size,0,none⟩=some (.slice RA r.length aa)/\wx.cell? ⟨wr.heap.size,1,none⟩=some (.complex .f64 (fl n.toNat) (fl (-n).toNat))) (by kernel_rfl) ⟨dZ,ed⟩ (fun hHeld => ?_);refine tkP 0 (some 15) ?_;refine tkP 1 (some 16) ?_;refine tkG 2 (some 17) ?_;refine tkP 3 (some 18) ?_;refine tkG 4 (some 19) ?_;refine Zg (rs:=[5]) (by kernel_rfl) (by simp) ?_;refine Zc.cons rfl (fun K hK => ?_) Zc.nil;go_simp;refine (hfl _).mono ?_;rintro _ wA ⟨rfl,hA⟩;have fT:=hA.cell dZ (fun h=>h);have fU:=hA.cell ed (fun h=>h);have hcA:=hcd.trans hA fun _ _ h=>h
   go_wp2_with fail
   refine hK.out _ _ ?_ ?_
   ·(intro _; exact ⟨fT,fU⟩)
   clear hK K
   try simp only [Act.put,List.setIfInBounds_toArray,List.set_cons_zero,List.set_cons_succ]
   refine Zg (rs:=[6]) (by kernel_rfl) (by simp) ?_;refine Zc.cons rfl (fun K hK => ?_) Zc.nil;go_simp;refine (hit _ hcA).mono ?_;rintro _ wB ⟨u,rfl,⟨rv,rfl,aX⟩,hB⟩;have p8:=aX;obtain ⟨bI,aj,rfl,_⟩:=aX;have HR:=Hd p8;clear p8 hit;have lS:=hB.cell fT (fun h=>h);have lT:=hB.cell fU (fun h=>h);have hcB:=hcA.trans hB fun _ _ h=>h
   go_wp2_with fail
   refine hK.out _ _ ?_ ?_
   ·(intro _; exact ⟨lS,lT⟩)
   clear hK K
   try simp only [Act.put,List.setIfInBounds_toArray,List.set_cons_zero,List.set_cons_succ]
   refine Zg (rs:=[7]) (by kernel_rfl) (by simp) ?_;refine Zc.cons rfl (fun K hK => ?_) Zc.nil;go_simp;have mP:(wB.alloc (.cells #[.slice bI r.length aj,.complex .f64 (fl (-n).toNat) (fl n.toNat)] 59)).cell? ⟨wr.heap.size,0,none⟩=some (.slice RA r.length aa):=((Chg.refl (fun _=>False) wB).alloc _).cell lS (fun h=>h);have mQ:(wB.alloc (.cells #[.slice bI r.length aj,.complex .f64 (fl (-n).toNat) (fl n.toNat)] 59)).cell? ⟨wr.heap.size,1,none⟩=some (.complex .f64 (fl n.toNat) (fl (-n).toNat)):=((Chg.refl (fun _=>False) wB).alloc _).cell lT (fun h=>h);refine hK.out _ _ ?_ ?_
   ·(intro _; exact ⟨mP,mQ⟩)
   clear hK K
   try simp only [Act.put,List.setIfInBounds_toArray,List.set_cons_zero,List.set_cons_succ]
   refine Zg (rs:=[8]) (by kernel_rfl) (by simp) ?_;refine Zc.cons rfl (fun K hK => ?_) Zc.nil;have H1:=Hd (X0 wB (.slice bI r.length aj) (.complex .f64 (fl (-n).toNat) (fl n.toNat)) 59);have bQ:=Hd (HO.out.chg (((((Chg.refl (fun _=>False) wr).alloc (.cells #[.slice RA r.length aa,.complex .f64 (fl n.toNat) (fl (-n).toNat)] 59)).drew.trans hA fun _ _ h=>h).trans hB fun _ _ h=>h).alloc (.cells #[.slice bI r.length aj,.complex .f64 (fl (-n).toNat) (fl n.toNat)] 59)) fun _ _ h=>h);refine Q6 rfl _ _ 45 45 rfl 59 2 40 Vm own _ I c 1 (ZG ps) [.slice bI r.length aj,.complex .f64 (fl (-n).toNat) (fl n.toNat)] _ rfl rfl bQ.out (XK.slice H1.out) (by simp [Value.oneCell']) (I+1) rfl ?_ ?_ ?_
   ·have:=HL.out; omega
   ·have:=HL.out; omega
   intro own' B' c' w2 hown hor ae;have dM:=Hd hown;clear hown;have hnr:∀ b,own=some b->b≠wr.heap.size:=fun b hb=>by have:=HO.out.lt hb; omega
   have yH:=ae.cell mP (fun h=>hnr _ h rfl);have yI:=ae.cell mQ (fun h=>hnr _ h rfl);refine hK.out _ _ ?_ ?_
   ·(intro _; exact ⟨yH,yI⟩)
   clear hK K
   try simp only [Act.put,List.setIfInBounds_toArray,List.set_cons_zero,List.set_cons_succ]
   refine tkP 9 (some 3) ?_;refine Zr (by kernel_rfl) ?_ _
   go_wp2_with fail
   go_roundw
   case rel =>
    have hcr:Chg (fun _=>False) wr wB:=(((Chg.refl (fun _=>False) wr).alloc (.cells #[.slice RA r.length aa,.complex .f64 (fl n.toNat) (fl (-n).toNat)] 59)).drew.trans hA fun _ _ h=>h).trans hB fun _ _ h=>h;have aM:Chg (fun _=>False) w w2:=(hcB.alloc _).trans ae fun i hi hg=>by have:=HN.out i hg; omega
    have bR:Chg (fun b=>own=some b) wB w2:=((Chg.refl _ wB).alloc _).trans ae fun i hi hg=>hg;refine ⟨I+1,own',B',c',ps++[(.slice bI r.length aj,ZB (r,-n))],by omega,by go_num,rfl,Hd ?_,Hd (by rw [Jd,Nw]; exact dM.out),Hd fun g hg => ?_,Hd fun p hp => ?_,aM⟩
    ·rw [List.map_append,HM.out,List.take_add_one,HX.out]; simp [Xh,Zi]
    ·rcases hor with h0 | h0
     ·exact HN.out g (h0▸hg)
     ·rw [h0] at hg;have:=hcB.size;simp at hg;omega
    ·have hlt3:∀ b,b<wB.heap.size->own≠some b->own'≠some b:=fun b hb hne=>by
      rcases hor with h0 | h0
      ·rw [h0]; exact hne
      ·rw [h0]; simp; omega
     have hsz:=hcw.size;have iM:=hcr.size;rcases List.mem_append.1 hp with hp | hp
     ·exact (((HP.out p hp).mono (G:=fun b=>(w.heap.size<=b/\own≠some b)/\own'≠some b) fun b hb hlt=>⟨hb,hlt3 b (by omega) hb.2⟩).chg ((hcr.mono (T':=fun b=>own=some b) fun _ _ h=>h.elim).trans bR fun _ _ h=>h) fun b hb _ he=>hb.1.2 he).mono fun b hb _=>⟨hb.1.1,hb.2⟩
     ·rw [List.mem_singleton.1 hp,Nw];have hHB:=HB.out;refine ⟨?_,by simp; omega,by simp; omega,hHB.2.2⟩;refine ((HR.out.mono (G:=fun b=>(w.heap.size<=b/\own≠some b)/\own'≠some b) fun b hb hlt => ?_).chg bR fun b hb _ he=>hb.1.2 he).mono fun b hb _=>⟨hb.1.1,hb.2⟩
      have hszA:wr.heap.size<=wA.heap.size:=by have:=hA.size; simp at this; omega
      have hb':wA.heap.size<=b:=by simpa [new] using hb
      have hne:own≠some b:=fun he=>by have:=HO.out.lt he; omega
      exact ⟨⟨by omega,hne⟩,hlt3 b hlt hne⟩
   case measure=>simp [intOf]; omega
  ·have hge:¬ ((I:Int)<(l.length:Int)):=by omega
   go_wp2_with fail
   go_ret
   have e:I=l.length:=by omega
   have hm:=HM.out;rw [e,List.take_length] at hm;refine ⟨_,rfl,hm▸Zp.My (HO.out.cs.mono fun g hg _=>HN.out g hg) (by rw [<- List.length_map (f:=fun p:PI=>p.2),hm,Zu]; simp [Xh]; exact e) HO.out.fits HO.out.WG fun p hp=>(HP.out p hp).mono fun b hb _=>hb.1,hcw⟩
end
section
open Go.RowKit
def Te (w:World) (v:Value) (ks:List Int):Prop :=
 ∃ A cap,v = .slice A ks.length cap/\(0<ks.length->∃ b off,A=some ⟨b,off,none⟩/\∀ j k,ks[j]? = some k->w.cell? ⟨b,off+j*2+1,none⟩=some (.int .i64 k))
theorem Te.Zf {w w':World} {v:Value} {ks:List Int} (h:Te w v ks) (hc:Chg (fun _=>False) w w'):Te w' v ks:=by
 obtain ⟨A,cap,rfl,h1⟩:=h;refine ⟨A,cap,rfl,fun h0 => ?_⟩;obtain ⟨b,off,rfl,h2⟩:=h1 h0;exact ⟨b,off,rfl,fun j k hk=>hc.cell (h2 j k hk) fun h=>h⟩
theorem Tg {F:Nat->Prop} {w:World} {c v:Value} {r:List Vl} (hk:Te w c (r.map (·.k))) (h:Zm F w v r) (hr:∀ x∈r,x.right=true) (hlen:r.length<=1000000) :
  Calls prog 164 #[c,v] w fun e w'=>e = .returned (.bool true)/\Chg (fun _=>False) w w':=by
 have hfit:=h.fit;obtain ⟨CA,lu,rfl,hk⟩:=hk;rw [List.length_map] at hk ⊢;obtain ⟨A,cap,rfl,hn,hcap,hat⟩:=h;have HA:=Hd hat;have HK:=Hd hk;have HL:=Hd hlen;have HR:=Hd hr;have HF:=Hd hfit;clear hat hk hlen hr hfit
 go_enter func164,ntmps164
 go_wp2_with fail
 go_loopw [14] (fun i wr=>∃ (I:Nat),I<=r.length/\i = .int .i64 I/\Chg (fun _=>False) w wr) (fun i _=>r.length-(intOf i).toNat)
 case atStart=>exact ⟨0,Nat.zero_le _,rfl,Chg.refl _ _⟩
 case round =>
  obtain ⟨I,hI,rfl,hcw⟩:=hrel;by_cases hlt:I<r.length
  ·obtain ⟨b,off,rfl,_,hb,hx⟩:=HA.out (by omega);obtain ⟨cb,xI,rfl,hk⟩:=HK.out (by omega);obtain ⟨x,ag⟩:∃ x,r[I]? = some x:=⟨_,List.getElem?_eq_getElem hlt⟩
   obtain ⟨p0,p1,p2,_⟩:=hx I x ag;have q0:=hcw.cell p0 (fun h=>h);have q1:=hcw.cell p1 (fun h=>h);have q2:=hcw.cell p2 (fun h=>h);have qk:=hcw.cell (hk I x.k (by rw [List.getElem?_map,ag]; rfl)) (fun h=>h);have hc1:=fun W=>XZ x W (HF.out x (List.mem_of_getElem? ag));have HV:=Hd (HR.out x (List.mem_of_getElem? ag));clear hx hk p0 p1 p2 ag;unfold Vl.val at hc1
   go_wp2_with fail
   have hcd:Chg (fun _=>False) w ((wr.alloc (.cells #[.int .i64 x.k,.int .i64 x.n,.string (str x.s)] 55)).drew):=(hcw.alloc _).drew;have dZ:((wr.alloc (.cells #[.int .i64 x.k,.int .i64 x.n,.string (str x.s)] 55)).drew).cell? ⟨wr.heap.size,0,none⟩=some (.int .i64 x.k):=by go_simp
   have ed:((wr.alloc (.cells #[.int .i64 x.k,.int .i64 x.n,.string (str x.s)] 55)).drew).cell? ⟨wr.heap.size,1,none⟩=some (.int .i64 x.n):=by go_simp
   have mR:((wr.alloc (.cells #[.int .i64 x.k,.int .i64 x.n,.string (str x.s)] 55)).drew).cell? ⟨wr.heap.size,2,none⟩=some (.string (str x.s)):=by go_simp
   have A7:=(((Chg.refl (fun _=>False) wr).alloc (.cells #[.int .i64 x.k,.int .i64 x.n,.string (str x.s)] 55)).drew).cell qk (fun h=>h);refine Zh [0,5,10] (S:=fun wx=>wx.cell? ⟨wr.heap.size,0,none⟩=some (.int .i64 x.k)/\wx.cell? ⟨wr.heap.size,1,none⟩=some (.int .i64 x.n)/\wx.cell? ⟨wr.heap.size,2,none⟩=some (.string (str x.s))/\wx.cell? ⟨cb,xI+I*2+1,none⟩=some (.int .i64 x.k)) (by kernel_rfl) ⟨dZ,ed,mR,A7⟩ (fun hHeld => ?_);refine tkG 0 (some 19) ?_;refine Zg (rs:=[1]) (by kernel_rfl) (by simp) ?_;refine Zc.cons rfl (fun K hK => ?_) Zc.nil;go_simp;refine (hc1 _).mono ?_;rintro _ wA ⟨rfl,hA⟩;have fT:=hA.cell dZ (fun h=>h);have fU:=hA.cell ed (fun h=>h);have qw:=hA.cell mR (fun h=>h);have A8:=hA.cell A7 (fun h=>h);have hcA:=hcd.trans hA fun _ _ h=>h;have A9:=And.intro fT (And.intro fU (And.intro qw A8));rw [HV.out];refine hK.out _ _ ?_ ?_
   ·((intro _; exact ⟨fT,fU,qw,A8⟩))
   clear hK K
   try simp only [Act.put,List.setIfInBounds_toArray,List.set_cons_zero,List.set_cons_succ]
   refine tkP 2 (some 21) ?_;refine tkP 3 (some 22) ?_;refine tkP 4 (some 23) ?_;refine tkG 5 (some 24) ?_;refine tkP 6 (some 25) ?_;refine tkP 7 (some 26) ?_;refine tkP 8 (some 27) ?_;refine tkP 9 (some 28) ?_;refine tkG 10 (some 29) ?_;refine tkP 11 (some 30) ?_;refine tkP 12 (some 31) ?_;refine Zr (by kernel_rfl) ?_ _
   go_wp2_with fail
   go_roundw
   case rel=>exact ⟨I+1,by omega,by go_num,hcA⟩
   case measure=>simp [intOf]; omega
  ·have hge:¬ ((I:Int)<(r.length:Int)):=by omega
   go_wp2_with fail
   go_ret
   exact ⟨rfl,hcw⟩
end
section
open Go.RowKit
theorem Fl {F:Nat->Prop} {w:World} {c rv:Value} {r:List Vl} {a b tb:Nat} (hc:w.cell? ⟨tb,1,none⟩=some c) (hk:Te w c (r.map (·.k))) (h:Zm F w rv r) (hr:∀ x∈r,x.right=true) (hlen:r.length<=1000000) :
  Calls prog 163 #[.agg #[rv,tc a b],.pointer (some ⟨tb,0,none⟩)] w fun e w'=>e = .returned (.bool false)/\Chg (fun _=>False) w w':=by
 have h1:=fun W (hW:Chg (fun _=>False) w W)=>Tg (hk.Zf hW) (h.Zf hW) hr hlen;obtain ⟨A,cap,rfl,_⟩:=h;obtain ⟨CA,lu,rfl,_⟩:=hk;rw [List.length_map] at hc h1;unfold tc;clear hr hlen;have hd:Chg (fun _=>False) w (w.alloc (.cells #[.slice A r.length cap,.complex .f64 (fl a) (fl b)] 59)):=(Chg.refl _ w).alloc _;have hc2:=hd.cell hc (fun h=>h)
 go_enter func163,ntmps163
 go_wp2_with fail
 refine (h1 _ hd).mono ?_;rintro _ w1 ⟨rfl,h2⟩
 go_wp2_with fail
 go_ret
 exact ⟨rfl,hd.trans h2 fun _ _ h=>h⟩
end
section
open Go.RowKit
theorem LB {F:Nat->Prop} {w:World} {c rv:Value} {r:List Vl} {a b fb gb nb db jf dn p9 N:Nat} (e1:w.cell? ⟨fb,0,none⟩=some (.pointer (some ⟨gb,0,none⟩)))
  (e2:w.cell? ⟨gb,1,none⟩=some (.slice (some ⟨db,jf,none⟩) dn p9)) (e3:w.cell? ⟨nb,0,none⟩=some (.int .i64 N)) (hN:N<dn) (hdn:dn<=1000000) (e4:w.cell? ⟨db,jf+N*2+1,none⟩=some c)
  (hk:Te w c (r.map (·.k))) (h:Zm F w rv r) (hr:∀ x∈r,x.right=true) (hlen:r.length<=1000000) :
  Calls prog 175 #[.agg #[rv,tc a b],.pointer (some ⟨fb,0,none⟩),.pointer (some ⟨nb,0,none⟩)] w fun e w'=>e = .returned (.bool false)/\Chg (fun _=>False) w w':=by
 have h1:=fun W (hW:Chg (fun _=>False) w W)=>Tg (hk.Zf hW) (h.Zf hW) hr hlen;obtain ⟨A,cap,rfl,_⟩:=h;obtain ⟨CA,lu,rfl,_⟩:=hk;rw [List.length_map] at e4 h1;unfold tc;clear hr hlen;have hd:Chg (fun _=>False) w (w.alloc (.cells #[.slice A r.length cap,.complex .f64 (fl a) (fl b)] 59)).drew:=((Chg.refl _ w).alloc _).drew;have c1:=hd.cell e1 (fun h=>h);have c2:=hd.cell e2 (fun h=>h);have c3:=hd.cell e3 (fun h=>h);have c4:=hd.cell e4 (fun h=>h);have c5:((w.alloc (.cells #[.slice A r.length cap,.complex .f64 (fl a) (fl b)] 59)).drew).cell? ⟨w.heap.size,0,none⟩=some (.slice A r.length cap):=by go_simp
 go_enter func175,ntmps175
 go_wp2_with fail
 refine Zh [0,3,4,7,9] (S:=fun wx=>wx.cell? ⟨fb,0,none⟩=some (.pointer (some ⟨gb,0,none⟩))/\wx.cell? ⟨gb,1,none⟩=some (.slice (some ⟨db,jf,none⟩) dn p9)/\wx.cell? ⟨nb,0,none⟩=some (.int .i64 N)/\wx.cell? ⟨db,jf+N*2+1,none⟩=some (.slice CA r.length lu)/\wx.cell? ⟨w.heap.size,0,none⟩=some (.slice A r.length cap)) (by kernel_rfl) ⟨c1,c2,c3,c4,c5⟩ (fun hHeld => ?_);refine tkG 0 (some 5) ?_;refine tkP 1 (some 6) ?_;refine tkP 2 (some 7) ?_;refine tkG 3 (some 8) ?_;refine tkG 4 (some 9) ?_;refine tkP 5 (some 10) ?_;refine tkP 6 (some 11) ?_;refine tkG 7 (some 12) ?_;refine tkP 8 (some 13) ?_;refine tkG 9 (some 14) ?_;refine Zg (rs:=[10]) (by kernel_rfl) (by simp) ?_;refine Zc.cons rfl (fun K hK => ?_) Zc.nil;go_simp;refine (h1 _ hd).mono ?_;rintro _ wA ⟨rfl,hA⟩;have d1:=hA.cell c1 (fun h=>h);have d2:=hA.cell c2 (fun h=>h);have d3:=hA.cell c3 (fun h=>h);have d4:=hA.cell c4 (fun h=>h);have d5:=hA.cell c5 (fun h=>h);have A9:=And.intro d1 (And.intro d2 (And.intro d3 (And.intro d4 d5)));have hcA:=hd.trans hA fun _ _ h=>h;refine hK.out _ _ ?_ ?_
 ·((intro _; exact A9))
 clear hK K
 try simp only [Act.put,List.setIfInBounds_toArray,List.set_cons_zero,List.set_cons_succ]
 refine tkP 11 (some 16) ?_;refine tkP 12 (some 4) ?_;refine Zr (by kernel_rfl) ?_ _
 go_wp2_with fail
 go_ret
 exact ⟨rfl,hcA⟩
end
section
open Go.RowKit Go.ChangeShapes Go.WideShapes
section
variable {H:Type} {enc:TypeId×Value->H} {P:Program} {w:World} {base:Nat} {held:Bool}
end
end
section
open Go.RowKit Go.ChangeShapes Go.WideShapes Go.Deep
def Zlb (w:World) (b o:Nat):Prop :=
 ∃ (tab:ByteArray) (rv:Value) (r:List Vl) (rem:Bool),w.cell? ⟨b,o,none⟩=some (.string tab)/\w.cell? ⟨b,o+1,none⟩=some rv/\w.cell? ⟨b,o+2,none⟩=some (.bool rem)/\Zm (fun k=>k<w.heap.size) w rv r
def E0 (w:World) (A:Option Addr) (n c:Nat):Prop :=
 n<=c/\c<=9223372036854775807/\(0<n->∃ b off,A=some ⟨b,off,none⟩/\b<w.heap.size/\∀ i,i<n->Zlb w b (off+i*3))
section
variable {H:Type} {enc:TypeId×Value->H} {P:Program} {w:World} {base:Nat} {held:Bool}
theorem ZdW {t:TypeId} {f0 f1 f2:Field} {fuel:Nat} {cs:List Value} {x:DataW H×List MemPlace} (ht:P.underlying t=some (.struct #[f0,f1,f2])) (h:DataW.trod enc P w base (fun _=>true) held fuel t cs=some x) :
  ∃ y0 y1 y2 n,DataW.trod enc P w base (fun _=>true) held n f0.type ((cs.drop f0.offset).take (P.cellsOf f0.type))=some y0 /\
   DataW.trod enc P w base (fun _=>true) held n f1.type ((cs.drop f1.offset).take (P.cellsOf f1.type))=some y1/\DataW.trod enc P w base (fun _=>true) held n f2.type ((cs.drop f2.offset).take (P.cellsOf f2.type))=some y2:=by
 obtain ⟨xs,n,_,rfl,hl,hlen,hf⟩:=DataW.trod_struct ht h
 match xs,hlen with
 | [y0,y1,y2],_=>exact ⟨y0,y1,y2,n,by simpa using hf 0 f0 rfl,by simpa using hf 1 f1 rfl,by simpa using hf 2 f2 rfl⟩
theorem add_zero' (p:Addr):p.add 0=p:=by obtain ⟨b,off,spot⟩:=p; unfold Addr.add; split <;> simp_all
theorem Zjn (s:ByteArray):s=str s.data.toList:=by cases s; rfl
structure E7 (P:Program) (e:TypeId) (f0 f1 f2:Field):Prop where
 he:P.underlying e=some (.struct #[f0,f1,f2])
 ce:P.cellsOf e=3
 o0:f0.offset=0
 o1:f1.offset=1
 o2:f2.offset=2
 c0:P.cellsOf f0.type=1
 c1:P.cellsOf f1.type=1
 c2:P.cellsOf f2.type=1
theorem CP {e:TypeId} {f0 f1 f2:Field} {fuel:Nat} {p:Addr} {cs:List Value} {x:DataW H×List MemPlace} (T:E7 P e f0 f1 f2) (hc:w.cells? base p (P.cellsOf e)=some cs) (h:DataW.trod enc P w base (fun _=>true) held fuel e cs=some x) :
  ∃ u0 u1 u2 y0 y1 y2 n,w.cell? p=some u0/\w.cell? (p.add 1)=some u1/\w.cell? (p.add 2)=some u2/\DataW.trod enc P w base (fun _=>true) held n f0.type [u0]=some y0/\DataW.trod enc P w base (fun _=>true) held n f1.type [u1]=some y1/\DataW.trod enc P w base (fun _=>true) held n f2.type [u2]=some y2:=by
 rw [T.ce] at hc;obtain ⟨_,hcl,hat⟩:=World.cells?_some hc;obtain ⟨y0,y1,y2,n',h0,h1,h2⟩:=ZdW T.he h;rw [T.o0,T.c0] at h0;rw [T.o1,T.c1] at h1;rw [T.o2,T.c2] at h2
 match cs,hcl with
 | [u0,u1,u2],_ =>
  simp only [List.drop_zero,List.take_succ_cons,List.take_zero,List.drop_succ_cons] at h0 h1 h2;have q0:=hat 0 (by omega);have q1:=hat 1 (by omega);have q2:=hat 2 (by omega);rw [add_zero'] at q0;exact ⟨u0,u1,u2,y0,y1,y2,n',by simpa using q0,by simpa using q1,by simpa using q2,h0,h1,h2⟩
theorem H9 {a:Addr} {u:Value} (q0:w.cell? (a.add (0*3))=some u):a.spot=none:=by
 simpa [Addr.add] using World.cell?_spot q0
theorem ZdX {t e:TypeId} {f0 f1 f2:Field} {fuel:Nat} {v:Value} {x:DataW H×List MemPlace} (ht:P.underlying t=some (.slice e)) (T:E7 P e f0 f1 f2)
  (t0:P.underlying f0.type=some (.int .i64)) (t1:P.underlying f1.type=some (.int .i64)) (t2:P.underlying f2.type=some .string)
  (h:DataW.trod enc P w base (fun _=>true) held fuel t [v]=some x):∃ r,Zm (fun k=>k<w.heap.size) w v r:=by
 rcases open_slice ht h with ⟨hcs,_⟩ | ⟨a,len,cap,m,n,D,Pl,hcs,hbase,hl,hm,hmm,hx,hi⟩
 ·simp at hcs;exact ⟨[],none,0,hcs,Nat.le_refl _,by decide,fun h=>absurd h (by simp)⟩
 ·simp only [if_true] at hmm;simp at hcs
  have hall:∀ i,∃ x:Vl,i<len->w.cell? (a.add (i*3))=some (.int .i64 x.k)/\w.cell? ((a.add (i*3)).add 1)=some (.int .i64 x.n)/\w.cell? ((a.add (i*3)).add 2)=some (.string (str x.s))/\x.s.length<=9223372036854775807:=fun i=>by
   by_cases hil:i<len
   ·obtain ⟨cs',hc,ht'⟩:=hi i (by omega);rw [T.ce] at hc;obtain ⟨u0,u1,u2,y0,y1,y2,n',q0,q1,q2,h0,h1,h2⟩:=CP T (by rw [T.ce]; exact hc) ht';obtain ⟨k0,e0,_,w0⟩:=DataW.trod_int t0 h0;obtain ⟨k1,e1,_,w1⟩:=DataW.trod_int t1 h1;obtain ⟨s,e2,x2,w2⟩:=DataW.trod_string t2 h2;injection e0 with e0 _
    injection e1 with e1 _
    injection e2 with e2 _
    subst e0; subst e1; subst e2
    refine ⟨⟨k0,k1,s.data.toList⟩,fun _=>⟨q0,q1,by rw [<- Zjn]; exact q2,?_⟩⟩;have e:s.data.toList.length=s.size:=by rw [Array.length_toList]; rfl
    show s.data.toList.length<=_;rw [e];simpa [maxLen] using w2
   ·exact ⟨⟨0,0,[]⟩,fun h=>absurd h hil⟩
  obtain ⟨f,hf⟩:=Classical.axiomOfChoice hall;have hlen:((List.range len).map f).length=len:=by simp
  refine ⟨(List.range len).map f,some a,cap,by rw [hlen]; exact hcs,by rw [hlen]; exact hl,by simpa [maxLen] using hm,fun h0 => ?_⟩;rw [hlen] at h0;have hs:=H9 (hf 0 h0).1;obtain ⟨b,off,spot⟩:=a;simp only at hs;subst hs;refine ⟨b,off,rfl,?_,?_,fun i x hx => ?_⟩
  ·have:=World.block_lt_of_cell? w _ (hf 0 h0).1
   rwa [Ja] at this
  ·have:=World.block_lt_of_cell? w _ (hf 0 h0).1
   rwa [Ja] at this
  ·have hil:i<len:=by
    have:=(List.getElem?_eq_some_iff.1 hx).1
    rwa [hlen] at this
   obtain ⟨q0,q1,q2,q3⟩:=hf i hil;have hx':f i=x:=by simpa [hil] using hx
   subst hx';rw [Ja] at q0;rw [Ja,Ja] at q1 q2;exact ⟨q0,q1,q2,q3⟩
theorem ZaM {t e er ev:TypeId} {f0 f1 f2 g0 g1 g2:Field} {fuel:Nat} {v:Value} {x:DataW H×List MemPlace} (ht:P.underlying t=some (.slice e)) (T:E7 P e f0 f1 f2)
  (t0:P.underlying f0.type=some .string) (t1:P.underlying f1.type=some (.slice ev)) (t2:P.underlying f2.type=some .bool)
  (G:E7 P ev g0 g1 g2) (s0:P.underlying g0.type=some (.int .i64)) (s1:P.underlying g1.type=some (.int .i64)) (s2:P.underlying g2.type=some .string)
  (h:DataW.trod enc P w base (fun _=>true) held fuel t [v]=some x):∃ A n c,v = .slice A n c/\E0 w A n c:=by
 rcases open_slice ht h with ⟨hcs,_⟩ | ⟨a,len,cap,m,n,D,Pl,hcs,hbase,hl,hm,hmm,hx,hi⟩
 ·simp at hcs;exact ⟨none,0,0,hcs,Nat.le_refl _,by omega,fun h=>absurd h (by omega)⟩
 ·simp only [if_true] at hmm;simp at hcs;refine ⟨some a,len,cap,hcs,hl,by simpa [maxLen] using hm,fun h0 => ?_⟩
  have hall:∀ i,i<len->∃ (tab:ByteArray) (rv:Value) (r:List Vl) (rem:Bool),w.cell? (a.add (i*3))=some (.string tab)/\w.cell? ((a.add (i*3)).add 1)=some rv/\w.cell? ((a.add (i*3)).add 2)=some (.bool rem)/\Zm (fun k=>k<w.heap.size) w rv r:=fun i hil=>by
   obtain ⟨cs',hc,ht'⟩:=hi i (by omega);rw [T.ce] at hc;obtain ⟨u0,u1,u2,y0,y1,y2,n',q0,q1,q2,h0,h1,h2⟩:=CP T (by rw [T.ce]; exact hc) ht';obtain ⟨s,e0,x0,w0⟩:=DataW.trod_string t0 h0;obtain ⟨r,hr⟩:=ZdX t1 G s0 s1 s2 h1;obtain ⟨bb,e2,_⟩:=DataW.trod_bool t2 h2;injection e0 with e0 _
   injection e2 with e2 _
   subst e0; subst e2
   exact ⟨s,u1,r,bb,q0,q1,q2,hr⟩
  have hs:a.spot=none:=by
   obtain ⟨_,_,_,_,q0,_⟩:=hall 0 h0;exact H9 q0
  obtain ⟨b,off,spot⟩:=a;simp only at hs;subst hs;refine ⟨b,off,rfl,?_,fun i hil => ?_⟩
  ·obtain ⟨_,_,_,_,q0,_⟩:=hall 0 h0;have:=World.block_lt_of_cell? w _ q0
   rwa [Ja] at this
  ·obtain ⟨tab,rv,r,rem,q0,q1,q2,q3⟩:=hall i hil;rw [Ja] at q0;rw [Ja,Ja] at q1 q2;exact ⟨tab,rv,r,rem,q0,q1,q2,q3⟩
end
end
end Go.Proofs.YtheflbaejhlboaaGreatDoor
