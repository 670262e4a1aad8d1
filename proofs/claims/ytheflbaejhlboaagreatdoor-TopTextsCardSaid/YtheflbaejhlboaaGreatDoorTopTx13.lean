/- Lemmas for a law of confluencetop. -/
import Derived.Test.YtheflbaejhlboaaGreatDoorTopTx12
set_option linter.all false
set_option maxHeartbeats 16000000
set_option maxRecDepth 20000
namespace Go.Proofs.YtheflbaejhlboaaGreatDoor
open Tryz
section
open Go.RowKit
structure MOk (w:World) (G:Nat->Prop) (fs:List (ByteArray×Nat)) (f g:List UInt8->Option Value) (av:List UInt8->List Vl) (old dl nw:List UInt8->List (List Vl×Int)) (tl:List UInt8->List Vl):Prop where
 o:∀ k,g k≠none->∃ x va y,(f k).getD Zfr = .agg #[x,va,y]/\Zo G w va (Zl (old k))
 n:∀ k v,g k=some v->Jd w G v (av k) (dl k) []
 l:∀ k,g k≠none->(av k).length<=1000/\k.length<=65536
 t:∀ k,g k≠none->nw k≠[]->∃ val:Nat->Vl,(∀ j,(val j).s.length<=9223372036854775807)/\tl k=av k++(List.range fs.length).map val/\∀ (j:Nat) f,fs[j]? = some f->∀ F W lv,Zo F W lv (Zl (nw k))->Calls prog 490 #[.agg #[.string f.1,.int .i64 (f.2:Int)],lv] W fun e W'=>e = .returned (.tuple #[(val j).val,.bool true])/\Chg (fun _=>False) W W'
 z:∀ k,g k≠none->Sm (old k)/\Sm (dl k)/\Sm (nw k)/\Few (nw k)/\∀ r,nf (nw k) r=nf (old k) r+nf (dl k) r
structure Zc2 (w wr:World) (G:Nat->Prop) (g gc:List UInt8->Option Value) (av:List UInt8->List Vl) (dl nw:List UInt8->List (List Vl×Int)) (left:List UInt8->Bool):Prop where
 no:∀ k,g k=none->gc k=none
 ya:∀ k,g k≠none->∃ v,gc k=some v/\Jd wr (X7 w w.heap.size G) v (av k) (if left k then dl k else nw k) []
theorem Zc2.chg {w wr wr':World} {G T:Nat->Prop} {g gc:List UInt8->Option Value} {av:List UInt8->List Vl} {dl nw:List UInt8->List (List Vl×Int)} {left:List UInt8->Bool} (h:Zc2 w wr G g gc av dl nw left) (hc:Chg T wr wr')
  (hT:∀ b,T b->¬ X7 w w.heap.size G b):Zc2 w wr' G g gc av dl nw left :=
 ⟨h.no,fun k hk=>by
  obtain ⟨v,h1,h2⟩:=h.ya k hk
  exact ⟨v,h1,h2.chg hc fun b hb hl ht=>hT b ht hb⟩⟩
structure G8 (w wr:World) (G:Nat->Prop) (g gc:List UInt8->Option Value) (av:List UInt8->List Vl) (nw:List UInt8->List (List Vl×Int)) (tl:List UInt8->List Vl) (done:List UInt8->Bool):Prop where
 no:∀ k,g k=none->gc k=none
 ya:∀ k,g k≠none->∃ v,gc k=some v/\Jd wr (X7 w w.heap.size G) v (av k) (nw k) (if done k && !(nw k).isEmpty then tl k else [])
theorem G8.chg {w wr wr':World} {G T:Nat->Prop} {g gc:List UInt8->Option Value} {av:List UInt8->List Vl} {nw:List UInt8->List (List Vl×Int)} {tl:List UInt8->List Vl} {done:List UInt8->Bool} (h:G8 w wr G g gc av nw tl done) (hc:Chg T wr wr')
  (hT:∀ b,T b->¬ X7 w w.heap.size G b):G8 w wr' G g gc av nw tl done :=
 ⟨h.no,fun k hk=>by
  obtain ⟨v,h1,h2⟩:=h.ya k hk
  exact ⟨v,h1,h2.chg hc fun b hb hl ht=>hT b ht hb⟩⟩
theorem G8.more {w wr:World} {G:Nat->Prop} {g gd uA:List UInt8->Option Value} {av:List UInt8->List Vl} {nw:List UInt8->List (List Vl×Int)} {tl:List UInt8->List Vl} {sl:List (List UInt8)} {J:Nat} {k:List UInt8}
  (h:G8 w wr G g gd av nw tl (fun k=>decide (k∈sl.take J))) (hJ:sl[J]? = some k) (hk:g k≠none) (ho:∀ x,x≠k->uA x=gd x) (hn:∃ v,uA k=some v/\Jd wr (X7 w w.heap.size G) v (av k) (nw k) (if !(nw k).isEmpty then tl k else [])) :
  G8 w wr G g uA av nw tl (fun k=>decide (k∈sl.take (J+1))):=by
 have e:sl.take (J+1)=sl.take J++[k]:=by rw [List.take_add_one,hJ]; rfl
 refine ⟨fun x hx => ?_,fun x hx => ?_⟩
 ·rw [ho x fun e=>by subst e; exact hk hx];exact h.no x hx
 ·by_cases hxk:x=k
  ·subst hxk;obtain ⟨v,h1,h2⟩:=hn;refine ⟨v,h1,?_⟩;have:decide (x∈sl.take (J+1))=true:=by rw [e]; simp
   rw [this,Bool.true_and];exact h2
  ·obtain ⟨v,h1,h2⟩:=h.ya x hx;refine ⟨v,(ho x hxk).trans h1,?_⟩;have:decide (x∈sl.take (J+1))=decide (x∈sl.take J):=by rw [e]; simp [hxk]
   rw [this];exact h2
theorem Qx.Zc3 {w:World} {b:Nat} {f:List UInt8->Option Value} (h:Qx w b f) {a:Addr} {u:Value} (hu:w.cell? a=some u):a.block≠b:=by
 rintro rfl;obtain ⟨es,c,h,_⟩:=h;simp [World.cell?,h] at hu
theorem Ca {α : Type} [DecidableEq α] (x : α):decide (x=x)=true:=by simp
theorem Cb {G:Nat->Prop} {w:World} {p mb fb fo fc kc bb:Nat} {KA:Option Addr} {ks:List Nat} {fs:List (ByteArray×Nat)} {f g:List UInt8->Option Value} {av:List UInt8->List Vl} {old dl nw:List UInt8->List (List Vl×Int)} {tl:List UInt8->List Vl} {KS KB:List (List UInt8)}
  (hF:T0 w p mb fb fo fc kc KA ks fs) (hf:Qx w mb f) (hg:Qx w bb g) (hbb:mb≠bb) (zl:∀ b,G b->b≠bb) (hm:MOk w G fs f g av old dl nw tl) (ff:Lo w G f) (kf:∀ k,f k≠none->k∈KS) (kg:∀ k,g k≠none->k∈KB) (kn:KS.length+KB.length<=12) :
  Calls prog 301 #[.pointer (some ⟨p,0,none⟩),.map (some bb)] w fun e w'=>e = .returned (.int .i64 0)/\Chg (fun i=>i=bb) w w'/\∃ g',Qx w' bb g'/\G8 w w' G g g' av nw tl (fun _=>true):=by
 have HF:=Hd hF;have HM:=Hd hf;have HG:=Hd hg;have bK:=Hd hm;have oh:=Hd ff;have om:=Hd kf;have qN:=Hd kg;have fV:=Hd kn;have ow:=Hd hbb;have kK:=Hd zl;have hbl:=hg.lt;have dw:=hf.lt;have tY:=MY;clear hF hf hg hm ff kf kg kn hbb zl
 go_enter func301,ntmps301
 have hg0:=HG.out
 go_wp2_with (at_range; go_loud (refine XI hg0 rfl _ rfl underlying426 rfl ?_); intro w1 c0 hi0 hcn hc1 hs1)
 obtain ⟨rb,hrb⟩:∃ x,x=w.heap.size:=⟨_,rfl⟩
 rw [<- hrb] at hi0;rw [<- hrb];have HI0:=Hd hi0;have jH:=Hd hrb
 have bW:=Hd (show Zc2 w w1 G g g av dl nw (fun k=>(g k).isSome) from ⟨fun k h=>h,fun k h=>by
  obtain ⟨v,hv⟩:=Option.ne_none_iff_exists'.1 h;refine ⟨v,hv,?_⟩;rw [hv]
  exact ((bK.out.n k v hv).mono fun b hb hl => .inr ⟨hb,hl⟩).Zf hc1⟩)
 have aX:=hc1.mono (T':=fun i=>i=bb) fun _ _ h=>h.elim;clear hi0 hcn hc1 hs1 hg0 hrb
 go_frame
 go_loopw [16] (fun _ wr=>∃ (left:List UInt8->Bool) (cnt:Nat) (gc:List UInt8->Option Value),Hid (J4 wr rb bb gc left cnt)/\Hid (Zc2 w wr G g gc av dl nw left)/\Chg (fun i=>i=bb) w wr) (fun _ wr=>Yf wr rb bb)
 case atStart=>exact ⟨_,c0,g,HI0,bW,aX⟩
 case round =>
  clear HI0 bW aX;obtain ⟨left,cnt,gc,HI,bW,hcw⟩:=hrel;have hi:=HI.out
  go_wp2_with (at_next; go_loud (refine X5 hi rfl _ rfl rfl ?_ ?_))
  ·intro hcnt hdone;have gH:=hi.map;have hfr:=HM.out.chg hcw fun h=>ow.out h
   have hbp:∀ b,b=bb->¬ X7 w w.heap.size G b:=fun b h hp=>by
    rcases hp with hp | hp
    ·omega
    ·exact kK.out b hp.1 h
   have hend:G8 w wr G g gc av nw tl (fun k=>decide (k∈([]:List (List UInt8)))):=⟨bW.out.no,fun k hk=>by
    obtain ⟨v,h1,h2⟩:=bW.out.ya k hk;rw [hdone k,if_neg (by decide)] at h2
    exact ⟨v,h1,by simpa using h2⟩⟩
   have gI:Lo wr (X7 w w.heap.size G) f:=fun k v hv=>by
    obtain ⟨key,S,told,h1,h2⟩:=oh.out k v hv;exact ⟨key,S,told,(h1.mono fun b hb hl => .inr ⟨hb,hl⟩).chg hcw fun b hb _ h=>hbp b h hb,h2⟩
   have dB:∀ k,gc k≠none->g k≠none:=fun k hk e=>hk (hend.no k e)
   have gJ:Lo wr (X7 w w.heap.size G) gc:=fun k v hv=>by
    have aO:=dB k (by rw [hv]; exact fun h=>by cases h);obtain ⟨v',h1,h2⟩:=hend.ya k aO;rw [hv] at h1;injection h1 with h1
    subst h1;exact ⟨_,_,_,h2,(bK.out.z k aO).2.2.2.1⟩
   have uB:=HF.out.Zf hcw fun k hk c t fr h=>by
    obtain ⟨es,cl,h2,_⟩:=HG.out;rw [hk,h2] at h;cases h
   have hfull:=Ue uB hfr gH gI gJ om.out (fun k hk=>qN.out k (dB k hk)) fV.out;have oz:=Hd hend;have uC:=Hd dB;have uD:=Hd gH;have oC:=Hd uB;have bg:=Hd hcw;clear hi hdone hend gI gJ dB hfr uB HI bW gH hcnt
   go_wp2_with fail
   refine hfull.mono ?_;rintro _ w2 ⟨rfl,hc2⟩;clear hfull
   go_wp2_with fail
   refine D9.mono ?_;rintro _ w3 ⟨rfl,hcell,hc3⟩;have kL:=hc2.trans hc3 fun _ _ h=>h;have eQ:=Lq hcell (uD.out.chg kL fun h=>h) (fun k hk=>(bK.out.l k (uC.out k hk)).2) (fun k hk=>qN.out k (uC.out k hk)) (by have:=fV.out; omega)
   go_wp2_with fail
   refine eQ.mono ?_;rintro _ w4 ⟨A,cap,sl,rfl,hsn,hsl,hsm,hc4,hcells⟩;have ja:=kL.trans hc4 fun _ _ h=>h;have iQ:=Hd (And.intro hsn (And.intro hsm hcells));have OZ:=Hd (show sl.length<=12 by have:=fV.out; omega);have zm:=Hd (oz.out.chg ja fun _ h=>h.elim);have nZ:=Hd (uD.out.chg ja fun h=>h);have aN:Chg (fun i=>i=bb) w w4:=bg.out.trans ja fun _ _ h=>h.elim;obtain ⟨wp,hwp⟩:∃ x,x=wr:=⟨_,rfl⟩
   subst hwp;have O0:=Hd nZ.out;have uE:Chg (fun i=>i=bb) wp w4:=ja.mono fun _ _ h=>h.elim
   have hnc:∀ i,i=bb->∀ c t fr,wp.heap[i]? ≠ some (.cells c t fr):=fun i hi c t fr h=>by
    obtain ⟨es,cl,h2,_⟩:=uD.out;rw [hi,h2] at h;cases h
   clear eQ hsn hsl hsm hcells hc2 hc3 hc4 kL hcell hcw
   go_wp2_with fail
   go_loopw [54] (fun i wr=>∃ (J:Nat) (gd:List UInt8->Option Value),J<=sl.length/\i = .int .i64 J/\Hid (Qx wr bb gd)/\Hid (G8 w wr G g gd av nw tl (fun k=>decide (k∈sl.take J)))/\Chg (fun i=>i=bb) w wr/\Chg (fun i=>i=bb) w4 wr) (fun i _=>sl.length-(intOf i).toNat)
   case atStart=>exact ⟨0,gc,Nat.zero_le _,rfl,nZ,Hd (by simpa using zm.out),aN,Chg.refl _ _⟩
   case round =>
    clear zm nZ aN;obtain ⟨J,gd,hJ,rfl,oD,oF,hcw,hcv⟩:=hrel;by_cases hlt:J<sl.length
    ·obtain ⟨k,mI⟩:∃ k,sl[J]? = some k:=⟨_,List.getElem?_eq_getElem hlt⟩
     obtain ⟨b,off,rfl,q0⟩:=iQ.out.2.2 J k mI;have aO:g k≠none:=uC.out k ((iQ.out.2.1 k).1 (List.mem_of_getElem? mI))
     have hkn:k∉sl.take J:=fun h=>by
      obtain ⟨i,hi⟩:=List.getElem?_of_mem h;have hil:i<J:=by have:=(List.getElem?_eq_some_iff.1 hi).1; rw [List.length_take] at this; omega
      rw [List.getElem?_take_of_lt hil] at hi;have h9:=(List.getElem?_inj (i:=i) (j:=J) (by omega) iQ.out.1).1 (hi.trans mI.symm);omega
     have r0:=hcv.cell q0 fun h=>(O0.out.Zc3 q0) h;obtain ⟨v,hv,hgr⟩:=oF.out.ya k aO;rw [decide_eq_false hkn,Bool.false_and,if_neg (by decide)] at hgr;have zn:=Hd hgr;obtain ⟨bz,bA,IA,ic,TA,iP,rfl,hk1,hk2,hk3⟩:=hgr.cells;have hmd:=oD.out;have hbr:b<wr.heap.size:=World.block_lt_of_cell? wr _ r0;have qR:=Hd (And.intro mI aO);have hln:=OZ.out;have aG:=Hd hlt;have HV:=Hd hv;by_cases hnw:nw k=[]
     ·have h0:((nw k).length:Int)=0:=by rw [hnw]; rfl
      have qP:=Hd hnw;clear hnw mI aO hkn q0 hk1 hk2 hk3 hgr
      go_wp2_with (at_lookup; go_loud (refine Jw hmd rfl _ _ false rfl underlying426 underlying9 (Xe _) k rfl rfl ?_))
      go_roundw
      case rel =>
       have fB:=(Chg.refl (fun _=>False) wr).alloc (.cells #[.slice bz (av k).length bA,.slice IA (nw k).length ic,.slice TA 0 iP] 431);refine ⟨J+1,gd,by have:=aG.out; omega,by go_num,Hd (oD.out.chg fB fun h=>h),Hd ((oF.out.chg fB fun _ h=>h.elim).more qR.out.1 qR.out.2 (fun _ _=>rfl) ⟨_,HV.out,?_⟩),hcw.alloc _,hcv.alloc _⟩;rw [qP.out];have:=zn.out.Zf fB;rw [qP.out] at this;exact this
      case measure=>have:=aG.out; simp [intOf]; omega
     ·obtain ⟨val,zo,htl,hone⟩:=bK.out.t k aO hnw;have uF:=oC.out.Zf (uE.trans hcv fun _ _ h=>h) hnc
      have hrow:=fun W (hc:Chg (fun _=>False) wr W)=>Uc (fs:=fs.map fun f=>(f.1,(f.2:Int))) (fb:=fb) (fo:=fo) (fc:=fc) (val:=val) (hk1.Zf hc) (bK.out.l k aO).1 (fun j f hj=>by
       rw [List.getElem?_map] at hj;obtain ⟨f',hf',rfl⟩:=Option.map_eq_some_iff.1 hj;exact (uF.Zf hc fun _ h=>h.elim).ff j f' hf') (by rw [List.length_map]; have:=HF.out.fl; omega) (fun j f hj W' hW'=>by
       rw [List.getElem?_map] at hj;obtain ⟨f',hf',rfl⟩:=Option.map_eq_some_iff.1 hj
       exact hone j f' hf' _ W' _ ((hk2.Zf hc).Zf hW')) zo
      rw [List.length_map,<- htl] at hrow;have hp1:=uF.c1;have hpl:p<wr.heap.size:=World.block_lt_of_cell? wr _ hp1
      have h0:(((nw k).length:Int)==0)=false:=by
       have:(nw k).length≠0:=fun e=>hnw (List.eq_nil_of_length_eq_zero e);rw [beq_eq_false_iff_ne];omega
      have hnl:(nw k).isEmpty=false:=by simpa using hnw
      have O1:=Hd hnl;clear hone zo htl uF hkn q0 hk1 hk2 hk3 hgr hnw hnl mI aO val
      go_wp2_with (at_lookup; go_loud (refine Jw hmd rfl _ _ false rfl underlying426 underlying9 (Xe _) k rfl rfl ?_))
      have hcd:Chg (fun _=>False) wr ((wr.alloc (.cells #[.slice bz (av k).length bA,.slice IA (nw k).length ic,.slice TA 0 iP] 431)).drew):=((Chg.refl _ wr).alloc _).drew;have s0:=hcd.cell hp1 fun h=>h;have hblk:((wr.alloc (.cells #[.slice bz (av k).length bA,.slice IA (nw k).length ic,.slice TA 0 iP] 431)).drew).heap[wr.heap.size]? = some (.cells #[.slice bz (av k).length bA,.slice IA (nw k).length ic,.slice TA 0 iP] 431 (0,0)):=heap_alloc_new wr _;obtain ⟨s1,s2,_⟩:=Z1 hblk;refine Zh [1,5,7] (S:=fun wx=>wx.cell? ⟨p,1,none⟩=some (.slice (some ⟨fb,fo,none⟩) fs.length fc)/\wx.cell? ⟨wr.heap.size,0,none⟩=some (.slice bz (av k).length bA)/\wx.cell? ⟨wr.heap.size,1,none⟩=some (.slice IA (nw k).length ic)) (by kernel_rfl) ⟨s0,s1,s2⟩ (fun hHeld => ?_);refine aa 0 (some 66) ?_;refine az 1 (some 67) ?_;refine aa 2 (some 68) ?_;refine aa 3 (some 69) ?_;refine aa 4 (some 70) ?_;refine az 5 (some 71) ?_;refine aa 6 (some 72) ?_;refine az 7 (some 73) ?_;refine Zg (rs:=[8]) (by kernel_rfl) (by simp) ?_;refine Zc.ZQ rfl (by kernel_rfl) (fun K hK => ?_) Zc.nil;go_simp;refine (hrow _ hcd).mono ?_;rintro _ wA ⟨u,rfl,⟨rv,rfl,bn⟩,hA⟩
      go_wp2_with fail
      refine hK.out _ _ ?_;clear hK K
      try simp only [Act.put,List.setIfInBounds_toArray,List.set_cons_zero,List.set_cons_succ]
      refine aa 9 (some 65) ?_;refine aa 10 (some 75) ?_;refine aa 11 (some 76) ?_;refine aa 12 (some 12) ?_;refine aa 13 (some 13) ?_;refine Zr (by kernel_rfl) ?_ _;have O3:=Hd bn;obtain ⟨RA,ae,rfl,_⟩:=bn;have dC:=hA.heap hblk fun h=>h;have hcA:=hcd.trans hA fun _ _ h=>h;obtain ⟨e0,e1,_⟩:=Z1 dC;have tC:=Hd hcA;have zq:=oD.out.chg hcA fun h=>h;have hszA:=hcA.size;have O4:=hcd.size;have O5:=Hd (show wr.heap.size<wA.heap.size by have:=hA.size; simp at this; omega);clear s0 s1 s2 hblk dC hA hrow hp1 hmd hcA;have hlt2:=O5.out
      go_wp2_with (at_mapUpdate; go_loud (refine YN zq rfl _ _ _ rfl underlying426 underlying9 k _ rfl rfl rfl ?_))
      intro w5 zt aZ hs5;have qU:=Hd zt;have zw:=Hd aZ;clear zt zq e0 e1 aZ
      go_wp2_with fail
      go_roundw
      case rel =>
       have hbp:∀ b,b=bb->¬ X7 w w.heap.size G b:=fun b h hp=>by
        rcases hp with hp | hp
        ·have:=HG.out.lt; omega
        ·exact kK.out b hp.1 h
       have gK:Chg (fun i=>i=bb) wr w5:=(tC.out.mono fun _ _ h=>h.elim).trans zw.out fun _ _ h=>h;refine ⟨J+1,_,by have:=aG.out; omega,by go_num,qU,Hd ((oF.out.chg gK fun b h=>hbp b h).more qR.out.1 qR.out.2 (fun x hx=>QF _ _ hx) ⟨_,Z7 _ _ _,?_⟩),hcw.trans gK fun _ _ h=>h,hcv.trans gK fun _ _ h=>h⟩;rw [O1.out,Bool.not_false,if_pos rfl];obtain ⟨kv,iv,tv,e,h1,h2,_⟩:=zn.out.ex;injection e with e
       have e : #[_,_,_] = #[_,_,_]:=e;simp only [Array.mk.injEq,List.cons.injEq,and_true] at e;obtain ⟨rfl,rfl,_⟩:=e;refine ⟨_,_,_,rfl,h1.chg gK fun b hb _ h=>hbp b h hb,h2.chg gK fun b hb _ h=>hbp b h hb,?_⟩;have uk:=hcw.size;refine (O3.out.chg zw.out fun b hb hl h => ?_).mono fun b hb _ => .inl ?_
       ·have hb:wr.heap.size+1<=b:=by simpa [new] using hb
        have:=oD.out.lt;omega
       ·have hb:wr.heap.size+1<=b:=by simpa [new] using hb
        omega
      case measure=>have:=aG.out; simp [intOf]; omega
    ·have hge:¬ ((J:Int)<(sl.length:Int)):=by omega
     go_wp2_with fail
     go_ret
     refine ⟨rfl,hcw,gd,oD.out,oF.out.no,fun k hk => ?_⟩;obtain ⟨v,h1,h2⟩:=oF.out.ya k hk;refine ⟨v,h1,?_⟩
     have hk2:k∈sl.take J:=by
      rw [show J=sl.length by omega,List.take_length];obtain ⟨v',h3,_⟩:=oz.out.ya k hk;exact (iQ.out.2.1 k).2 (by rw [h3]; exact fun h=>by cases h)
     rw [decide_eq_true hk2] at h2;exact h2
  ·intro k v w2 cnt2 hlk bR hi2 hlt hc2' hs2 hent;have kH:w.heap.size<=rb/\rb<=w.heap.size:=by have:=jH.out; omega
   have hwr:=hcw.size;have aO:g k≠none:=fun e=>by rw [bW.out.no k e] at bR; cases bR
   have gL:=bW.out.chg hc2' fun b hb h=>by simp only [X7] at h; omega
   obtain ⟨v',hv',hgr⟩:=gL.ya k aO;rw [bR] at hv';injection hv' with hv'
   subst hv';rw [hlk,if_pos rfl] at hgr;obtain ⟨bz,bA,IA,ic,TA,iP,rfl,hk1,hk2,hk3⟩:=hgr.cells;obtain ⟨ox,zy,oy,hov,hos⟩:=bK.out.o k aO;have hcw2:Chg (fun i=>i=bb) w w2:=hcw.trans hc2' fun i hi h=>by omega
   have jb:=(hos.mono (G:=X7 w w.heap.size G) fun b hb hl => .inr ⟨hb,hl⟩).chg hcw2 fun b hb hl h=>by
    rcases hb with hb | hb
    ·omega
    ·exact kK.out b hb.1 h
   obtain ⟨OA,oc,rfl,_⟩:=id jb;rw [Zu] at jb hov;obtain ⟨qV,qW,uG,dA,hnw⟩:=bK.out.z k aO;have hadd:=fun W (hc:Chg (fun _=>False) w2 W)=>Te (jb.Zf hc) (hk2.Zf hc) (by rw [Zu]; have:=qV.few; omega) (by rw [Zu]; have:=qW.few; omega) qV.rows qW.rows (by have:=qV.sum; have:=qW.sum; omega)
   have hlk2:∀ W,Chg (fun _=>False) w2 W->(Instr.lookup 426 (.map (some mb)) (QN k) false).run prog W = .ok (.agg #[ox,.slice OA (old k).length oc,oy]) W:=fun W hW=>by
    have hM:=(HM.out.chg hcw2 fun h=>ow.out h).chg hW fun h=>h;have h1:=hM.look underlying426 underlying9 (Xe W) k false;rw [h1];simp only [Bool.false_eq_true,if_false];exact congrArg (fun u=>Result.ok u W) hov
   have jI:=Hd (fun W u (F:Nat->Prop) (hc:Zo F W u (Zl (nw k)))=>TD hc uG.zr dA.2.1);have qX:=Hd (And.intro uG (And.intro hnw aO));have uh:=Hd hk1;have HI2:=Hd hi2;have aG:=Hd (And.intro hlt hs2);have mH:=Hd hi.left_eq;have gM:=Hd gL
   have hp2:w2.cell? ⟨p,2,none⟩=some (.map (some mb)):=hcw2.cell HF.out.c2 fun h=>by
    have h1:=HG.out;obtain ⟨es,cl,h2,_⟩:=h1;have h3:=HF.out.c2;simp only at h;subst h;simp [World.cell?,h2] at h3
   have hpl:=World.block_lt_of_cell? w2 _ hp2;simp only at hpl;clear hi hi2 gL hk1 hk2 hk3 hgr hos jb hov qV qW uG dA hnw hlk bR hlt hs2 HI bW aO
   go_wp2_with fail
   have hcd:Chg (fun _=>False) w2 ((w2.alloc (.cells #[.slice bz (av k).length bA,.slice IA (dl k).length ic,.slice TA 0 iP] 431)).drew):=((Chg.refl _ w2).alloc _).drew;have s0:=hcd.cell hp2 fun h=>h;have s1:=hlk2 _ hcd;have hblk:((w2.alloc (.cells #[.slice bz (av k).length bA,.slice IA (dl k).length ic,.slice TA 0 iP] 431)).drew).heap[w2.heap.size]? = some (.cells #[.slice bz (av k).length bA,.slice IA (dl k).length ic,.slice TA 0 iP] 431 (0,0)):=heap_alloc_new w2 _;obtain ⟨_,s2,_⟩:=Z1 hblk;refine Zh [3,5,8] (S:=fun wx=>wx.cell? ⟨p,2,none⟩=some (.map (some mb))/\(Instr.lookup 426 (.map (some mb)) (QN k) false).run prog wx = .ok (.agg #[ox,.slice OA (old k).length oc,oy]) wx/\wx.cell? ⟨w2.heap.size,1,none⟩=some (.slice IA (dl k).length ic)) (by kernel_rfl) ⟨s0,s1,s2⟩ (fun hHeld => ?_);refine aa 0 (some 22) ?_;refine aa 1 (some 23) ?_;refine aa 2 (some 24) ?_;refine az 3 (some 25) ?_;refine aa 4 (some 26) ?_;refine az 5 (some 27) ?_;refine aa 6 (some 28) ?_;refine aa 7 (some 29) ?_;refine az 8 (some 30) ?_;refine Zg (rs:=[9]) (by kernel_rfl) (by simp) ?_;refine Zc.cons rfl (fun K hK => ?_) Zc.nil;go_simp;refine (hadd _ hcd).mono ?_;rintro _ wA ⟨u,S,rfl,hz,hnf,hsl,hset,hA⟩
   go_wp2_with fail
   refine hK.out _ _ ?_ ?_
   ·(intro _; exact ⟨hA.cell s0 (fun h=>h),hlk2 _ (hcd.trans hA fun _ _ h=>h),hA.cell s2 (fun h=>h)⟩)
   clear hK K
   try simp only [Act.put,List.setIfInBounds_toArray,List.set_cons_zero,List.set_cons_succ]
   refine aa 10 (some 21) ?_;refine aa 11 (some 32) ?_;refine aa 12 (some 33) ?_;refine aa 13 (some 7) ?_;refine aa 14 (some 8) ?_;refine Zr (by kernel_rfl) ?_ _;have mE:S=nw k:=ZP.uniq hz qX.out.1.set fun r=>by rw [hnf,Qe,Wn,Wn,qX.out.2.1]
   rw [mE] at hset;have fC:=jI.out wA u _ hset;have oG:=Hd hset;have HA:=Hd hA;obtain ⟨UA,uc,rfl,_⟩:=hset;have dC:=hA.heap hblk fun h=>h;have hcA:=hcd.trans hA fun _ _ h=>h;clear mE hz hnf hsl S hlk2 hadd s0 s1 s2 hblk hA;rw [Zu] at fC oG
   go_wp2_with fail
   rw [Zu];refine fC.mono ?_;rintro _ wB ⟨rfl,hB⟩;have jJ:=hB.heap dC fun h=>h;obtain ⟨e0,_,_⟩:=Z1 jJ;have hcB:=hcA.trans hB fun _ _ h=>h;have zA:=HI2.out.chg hcB (fun h=>h) (fun h=>h)
   have dB:gc k≠none:=fun e=>by
    obtain ⟨v,h1,_⟩:=gM.out.ya k qX.out.2.2;rw [e] at h1;cases h1
   have O6:=Hd (And.intro hcB (And.intro hB dB));clear fC dC jJ hcA
   go_wp2_with (at_mapUpdate; go_loud (refine Ll zA rfl _ _ _ rfl underlying426 underlying9 k _ rfl rfl rfl dB ?_))
   intro w3 hi3 hc3 hs3;have HI3:=Hd hi3;clear hi3 zA dB
   go_wp2_with fail
   go_roundw
   case rel =>
    obtain ⟨hcB,hB,_⟩:=O6.out;obtain ⟨hsm,_,aO⟩:=qX.out
    have hbp:∀ b,b=bb->¬ X7 w w.heap.size G b:=fun b h hp=>by
     rcases hp with hp | hp
     ·omega
     ·exact kK.out b hp.1 h
    have dz:Chg (fun i=>i=bb) w2 w3:=(hcB.mono fun _ _ h=>h.elim).trans hc3 fun _ _ h=>h;refine ⟨_,cnt2,_,HI3,Hd ⟨fun k' hk' => ?_,fun k' hk' => ?_⟩,hcw2.trans dz fun _ _ h=>h⟩
    ·rw [QF _ _ (show k'≠k from fun e=>by subst e; exact aO hk')];exact gM.out.no k' hk'
    ·by_cases hkk:k'=k
     ·subst hkk;refine ⟨_,Z7 _ _ _,⟨_,_,_,rfl,uh.out.chg dz fun b hb _ h=>hbp b h hb,?_,Zj.Xz _ _⟩⟩;rw [Ca,Bool.not_true,Bool.and_false,if_neg (by decide)];have hszA:w.heap.size<w2.heap.size:=by have:=HI2.out.lt; omega
      refine ((oG.out.Zf hB).chg hc3 fun b hb hl h => ?_).mono fun b hb _ => .inl ?_
      ·have hb:w2.heap.size+1<=b:=by simpa [new] using hb
       omega
      ·have hb:w2.heap.size+1<=b:=by simpa [new] using hb
       omega
     ·obtain ⟨v,h1,h2⟩:=gM.out.ya k' hk';refine ⟨v,(QF _ _ hkk).trans h1,?_⟩;have:(left k' && !decide (k'=k))=left k':=by simp [hkk]
      rw [this];exact h2.chg dz fun b hb _ h=>hbp b h hb
   case measure =>
    rw [mH.out,HI3.out.left_eq];exact aG.out.1
end
section
open Go.RowKit
theorem Pa {P:Program} {t kt et:TypeId} {w:World} {b:Nat} {f:List UInt8->Option Value} {ops:Array Oper} {o:Oper} {a:Act} {Q:Exit->Act->World->Prop} {K:Act->World->Prop} {E:Prop} (h:Qx w b f) (hg:o.guard=none) (m x v:Operand) (hop:o.op=Op.mapUpdate t m x v) (ht:P.underlying t=some (.map kt et)) (hk:P.underlying kt=some .string)
  (k:List UInt8) (u:Value) (hm:a.eval m = .map (some b)) (hx:a.eval x=QN k) (hv:a.eval v=u)
  (hK:∀ w',Qx w' b (upd f k (some u))->Chg (fun i=>i=b) w w'->w'.heap.size=w.heap.size->K (a.put o.dst undef) w'):if Region.wanted o (yielded ops a.tmps)=true then Oper.wp P o a w K Q else E:=by
 rw [if_pos (by simp [Region.wanted,hg])];obtain ⟨w',hrun,r1,r2,r3⟩:=h.store ht hk k u;unfold Oper.wp;simp [execOp,hop,hm,hx,hv,hrun,Result.andThen];exact hK w' r1 r2 r3
theorem WS {P:Program} {t kt et:TypeId} {w:World} {b:Nat} {f:List UInt8->Option Value} {ops:Array Oper} {rest:List Oper} {o:Oper} {a:Act} {Q:Exit->Act->World->Prop} (h:Qx w b f) (hg:o.guard=none) (m x:Operand) (hop:o.op=Op.lookup t m x false) (ht:P.underlying t=some (.map kt et)) (hk:P.underlying kt=some .string) {z:Value} (hz:(zeroValue et).run P w = .ok z w)
  (k:List UInt8) (u:Value) (hu:(f k).getD z=u) (hm:a.eval m = .map (some b)) (hx:a.eval x=QN k) (hK:wpList P ops Q rest (a.put o.dst u) w):wpList P ops Q (o::rest) a w:=by
 subst hu;exact Jw h hg m x false hop ht hk hz k hm hx hK
structure Pb (w4 wr:World) (mb:Nat) (own:Option Nat) (B:Option Addr) (L c:Nat) (ps:List PI) (items:List Itm):Prop where
 len:L=ps.length
 few:ps.length<=100
 eq:ps.map (·.2)=items
 o:QC wr 59 2 own B L c (ZM ps)
 n:∀ g,own=some g->w4.heap.size<=g
 p:∀ p∈ps,POk (fun b=>b<w4.heap.size/\b≠mb) wr p
theorem Pb.chg {w4 wr wr':World} {mb:Nat} {own:Option Nat} {B:Option Addr} {L c:Nat} {ps:List PI} {items:List Itm} {T:Nat->Prop} (h:Pb w4 wr mb own B L c ps items) (hc:Chg T wr wr') (hT:∀ b,T b->b<w4.heap.size->b=mb) (hO:∀ b,T b->own≠some b):Pb w4 wr' mb own B L c ps items :=
 ⟨h.len,h.few,h.eq,h.o.chg hc fun b hb ht=>hO b ht hb,h.n,fun p hp=>(h.p p hp).chg hc fun b hb _ ht=>hb.2 (hT b ht hb.1)⟩
theorem Pb.push {w4 wr wC w2:World} {mb:Nat} {own own':Option Nat} {B B':Option Addr} {L c c' k:Nat} {ps:List PI} {items:List Itm} {rv:Value} {x:Itm} (h:Pb w4 wr mb own B L c ps items) (hc:Chg (fun _=>False) wr wC) (hown:QC w2 59 2 own' B' (L+1) c' (ZM ps++[rv,tc x.a x.b]))
  (hor:own'=own\/own'=some k) (hk:w4.heap.size<=k) (ag:Chg (fun b=>own=some b) wC w2) (hrow:POk (fun b=>b<w4.heap.size/\b≠mb) wC (rv,x)) (hf:ps.length<100):Pb w4 w2 mb own' B' (L+1) c' (ps++[(rv,x)]) (items++[x]) where
 len:=by rw [List.length_append,h.len]; rfl
 few:=by rw [List.length_append]; show ps.length+1<=100; omega
 eq:=by rw [List.map_append,h.eq]; rfl
 o:=by rw [JD]; exact hown
 n:=fun g hg=>by
  rcases hor with e | e
  ·exact h.n g (e▸hg)
  ·rw [e] at hg; injection hg with hg; omega
 p:=fun p hp=>by
  have hn:∀ b,b<w4.heap.size/\b≠mb->b<wC.heap.size->¬ own=some b:=fun b hb _ e=>by have:=h.n b e; omega
  rcases List.mem_append.1 hp with hp | hp
  ·exact ((h.p p hp).chg hc fun _ _ _ h=>h).chg ag hn
  ·rw [List.mem_singleton.1 hp];exact hrow.chg ag hn
def atN (ks:List Nat) (D:List (List Vl×Int)) (k:List UInt8):Option (List Vl×Int):=D.find? fun p=>decide (nmR ks p.1=k)
theorem Zft {ks:List Nat} {D:List (List Vl×Int)} (hn:(D.map fun p=>nmR ks p.1).Nodup) {p:List Vl×Int} (hp:p∈D):atN ks D (nmR ks p.1)=some p:=by
 unfold atN
 induction D with
 | nil=>cases hp
 | cons q D ih =>
  obtain ⟨h1,h2⟩:=List.nodup_cons.1 (show (nmR ks q.1::D.map fun p=>nmR ks p.1).Nodup from hn);rw [List.find?_cons];rcases List.mem_cons.1 hp with rfl | hp
  ·simp
  ·have hne:nmR ks q.1≠nmR ks p.1:=fun e=>h1 (List.mem_map.2 ⟨p,hp,e.symm⟩);rw [decide_eq_false hne];exact ih h2 hp
def Za0 (ks:List Nat) (D:List (List Vl×Int)) (k:List UInt8):List Vl:=((atN ks D k).map fun p=>QS ks p.1).getD []
def dlN (ks:List Nat) (D:List (List Vl×Int)) (k:List UInt8):List (List Vl×Int):=(atN ks D k).toList
structure Zka (w:World) (G:Nat->Prop) (ks:List Nat) (fs:List (ByteArray×Nat)) (f:List UInt8->Option Value) (D:List (List Vl×Int)) (old nw:List UInt8->List (List Vl×Int)) (ax tl:List UInt8->List Vl):Prop where
 o:∀ p∈D,∃ x va y key,(f (nmR ks p.1)).getD Zfr = .agg #[x,va,y]/\Zj G w x key/\Zo G w va (Zl (old (nmR ks p.1)))/\Zj G w y (ax (nmR ks p.1))
 l:∀ p∈D,(nmR ks p.1).length<=65536
 t:∀ p∈D,nw (nmR ks p.1)≠[]->∃ val:Nat->Vl,(∀ j,(val j).s.length<=9223372036854775807)/\tl (nmR ks p.1)=QS ks p.1++(List.range fs.length).map val/\∀ (j:Nat) f,fs[j]? = some f->∀ F W lv,Zo F W lv (Zl (nw (nmR ks p.1)))->Calls prog 490 #[.agg #[.string f.1,.int .i64 (f.2:Int)],lv] W fun e W'=>e = .returned (.tuple #[(val j).val,.bool true])/\Chg (fun _=>False) W W'
 z:∀ p∈D,Sm (old (nmR ks p.1))/\Sm [p]/\Sm (nw (nmR ks p.1))/\Few (nw (nmR ks p.1))/\∀ r,nf (nw (nmR ks p.1)) r=nf (old (nmR ks p.1)) r+nf [p] r
 ne:∀ p∈D,old (nmR ks p.1)≠[]\/nw (nmR ks p.1)≠[]
 r:∀ p∈D,(old (nmR ks p.1)≠[]->Zk (ax (nmR ks p.1))=true)/\(nw (nmR ks p.1)≠[]->Zk (tl (nmR ks p.1))=true)
def Q7 (old nw:List UInt8->List (List Vl×Int)) (ax tl:List UInt8->List Vl) (k:List UInt8):List Itm:=(if old k=[] then [] else [⟨ax k,0,1⟩])++(if nw k=[] then [] else [⟨tl k,1,0⟩])
theorem Sa (old nw:List UInt8->List (List Vl×Int)) (ax tl:List UInt8->List Vl):∀ dn:List (List UInt8),(dn.flatMap (Q7 old nw ax tl)).length<=2*dn.length
 | []=>by simp
 | k::dn=>by
  rw [List.flatMap_cons,List.length_append,List.length_cons];have h1:=Sa old nw ax tl dn;have h2:(Q7 old nw ax tl k).length<=2:=by unfold Q7; split <;> split <;> simp
  omega
theorem Sb {α : Type} [DecidableEq α]:∀ {l m:List α},l.Nodup->(∀ x∈l,x∈m)->l.length<=m.length
 | [],_,_,_=>Nat.zero_le _
 | x::l,m,hn,h=>by
  obtain ⟨h1,h2⟩:=List.nodup_cons.1 hn;have hx:=h x List.mem_cons_self;have:=Sb (m:=m.erase x) h2 fun y hy=>(List.mem_erase_of_ne fun e=>h1 (by subst e; exact hy)).2 (h y (List.mem_cons_of_mem _ hy));have hl:=List.length_erase_of_mem hx;have hp:0<m.length:=List.length_pos_of_mem hx;rw [List.length_cons];omega
theorem M1 (old nw:List UInt8->List (List Vl×Int)) (ax tl:List UInt8->List Vl):∀ dn:List (List UInt8),ZW (dn.flatMap (Q7 old nw ax tl))<=2*dn.length
 | []=>by simp [ZW]
 | k::dn=>by
  rw [List.flatMap_cons,KU,List.length_cons];have h1:=M1 old nw ax tl dn;have h2:ZW (Q7 old nw ax tl k)<=2:=by unfold Q7; split <;> split <;> simp [ZW]
  omega
structure Dn (gd f fc:List UInt8->Option Value) (nw:List UInt8->List (List Vl×Int)) (left:List UInt8->Bool) (dn:List (List UInt8)):Prop where
 nd:dn.Nodup
 lf:∀ k,gd k≠none->left k = !decide (k∈dn)
 dm:∀ k∈dn,gd k≠none
 fc:∀ k,fc k=if decide (k∈dn) then (if (nw k).isEmpty then none else gd k) else f k
theorem Dn.step {gd f fc iR:List UInt8->Option Value} {nw:List UInt8->List (List Vl×Int)} {left:List UInt8->Bool} {dn:List (List UInt8)} {k:List UInt8} (h:Dn gd f fc nw left dn) (hk:gd k≠none) (hl:left k=true) (ho:∀ x,x≠k->iR x=fc x) (hn:iR k=if (nw k).isEmpty then none else gd k) :
  Dn gd f iR nw (fun x=>left x && !decide (x=k)) (dn++[k]):=by
 have hkd:k∉dn:=fun hm=>by have:=h.lf k hk; rw [hl,decide_eq_true hm] at this; cases this
 refine ⟨?_,fun x hx => ?_,fun x hx => ?_,fun x => ?_⟩
 ·rw [List.nodup_append];exact ⟨h.nd,by simp,fun a ha b hb e=>hkd (by rw [List.mem_singleton.1 hb] at e; exact e▸ha)⟩
 ·by_cases hxk:x=k
  ·subst hxk; simp
  ·rw [h.lf x hx]; simp [hxk]
 ·rcases List.mem_append.1 hx with hx | hx
  ·exact h.dm x hx
  ·rw [List.mem_singleton.1 hx]; exact hk
 ·by_cases hxk:x=k
  ·subst hxk; rw [hn]; simp
  ·rw [ho x hxk,h.fc x]; simp [hxk]
theorem QC.T3 {w:World} {e:TypeId} {k:Nat} {own:Option Nat} {A:Option Addr} {n cap:Nat} {xs:List Value} (h:QC w e k own A n cap xs) {g:Nat} (hg:own=some g):∃ cs t fr,w.heap[g]? = some (.cells cs t fr):=by
 rcases h.2.2 with ⟨h1,_⟩ | ⟨g',cur,h1,_,h2,_⟩
 ·rw [h1] at hg; cases hg
 ·rw [h1] at hg;injection hg with hg
  subst hg;exact ⟨_,_,_,h2⟩
theorem J4.G9 {w:World} {r b:Nat} {f:List UInt8->Option Value} {left:List UInt8->Bool} {cnt:Nat} (h:J4 w r b f left cnt) {cs:Array Value} {t:TypeId} {fr:Nat×Nat} {g:Nat} (hg:w.heap[g]? = some (.cells cs t fr)):g≠r/\g≠b:=by
 obtain ⟨es,clock,since,seen,c0,hb,_,hr,_⟩:=h;exact ⟨fun e=>(by subst e; rw [hr] at hg; cases hg),fun e=>(by subst e; rw [hb] at hg; cases hg)⟩
theorem Fa {G:Nat->Prop} {w:World} {sv:Value} {p mb fb fo fc kc:Nat} {KA:Option Addr} {ks:List Nat} {fs:List (ByteArray×Nat)} {f:List UInt8->Option Value} {D:List (List Vl×Int)} {old nw:List UInt8->List (List Vl×Int)} {ax tl:List UInt8->List Vl} {KS:List (List UInt8)}
  (hF:T0 w p mb fb fo fc kc KA ks fs) (hf:Qx w mb f) (zB:∀ b,G b->b≠mb) (hd:Zo G w sv (Zl D)) (hz:ZR D) (hs:∀ p∈D,T2 ks fs p.1) (hnd:(D.map fun p=>nmR ks p.1).Nodup) (hok:Zka w G ks fs f D old nw ax tl)
  (ff:Lo w G f) (kf:∀ k,f k≠none->k∈KS) (kn:KS.length+D.length<=12) :
  Calls prog 181 #[.pointer (some ⟨p,0,none⟩),sv] w fun e w'=>∃ (u:Value) (S:List (List Vl×Int)) (dn:List (List UInt8)) (iR:List UInt8->Option Value),e = .returned (.tuple #[u,.int .i64 0])/\ZP S/\(∀ r,nf S r=Qv (dn.flatMap (Q7 old nw ax tl)) r)/\dn.Nodup/\(∀ k,k∈dn↔∃ p∈D,k=nmR ks p.1)/\Zo (new w) w' u (Zl S)/\Chg (fun i=>i=mb) w w' /\
   Qx w' mb iR/\(∀ k,k∉dn->iR k=f k)/\∀ p∈D,(nw (nmR ks p.1)=[]->iR (nmR ks p.1)=none)/\(nw (nmR ks p.1)≠[]->∃ v,iR (nmR ks p.1)=some v/\Jd w' (fun b=>w.heap.size<=b\/G b/\b<w.heap.size) v (QS ks p.1) (nw (nmR ks p.1)) (tl (nmR ks p.1))):=by
 have hright:=J7 hd hz;have HF:=Hd hF;have HM:=Hd hf;have zC:=Hd zB;have HD:=Hd hd;have HS:=Hd hs;have qM:=Hd hnd;have bK:=Hd hok;have oh:=Hd ff;have om:=Hd kf;have fV:=Hd kn;have dw:=hf.lt;obtain ⟨SA,sc,rfl,_⟩:=id hd;rw [Zu] at hright HD ⊢;clear hF hf zB hd hz hs hnd hok ff kf kn
 go_enter func181,ntmps181
 go_wp2_with fail
 refine hright.mono ?_;rintro _ w1 ⟨rfl,hc1⟩;have hsplit:=D6 (HD.out.Zf hc1) (by have:=fV.out; omega) (HF.out.Zf hc1 fun _ h=>h.elim) HS.out qM.out;obtain ⟨bb,hbb⟩:∃ x,x=w1.heap.size:=⟨_,rfl⟩
 rw [<- hbb] at hsplit;have ow:=Hd hbb;clear hright
 go_wp2_with fail
 refine hsplit.mono ?_;rintro _ w2 ⟨rfl,hc2,g,hsp⟩;have gN:Chg (fun _=>False) w w2:=hc1.trans hc2 fun _ _ h=>h;have hsz1:=hc1.size;have hmw:=HM.out.lt
 have hgd:∀ k,g k≠none->∃ p∈D,k=nmR ks p.1:=fun k hk=>by
  obtain ⟨j,q,_,hq,e⟩:=hsp.dom k hk;exact ⟨q,List.mem_of_getElem? hq,e⟩
 have hat:∀ p,p∈D->atN ks D (nmR ks p.1)=some p:=fun p hp=>Zft qM.out hp
 have hgs:∀ p,p∈D->∃ kv iv,g (nmR ks p.1)=some (ZhY kv iv (.slice none 0 0))/\Zj (X7 w1 w1.heap.size G) w2 kv (QS ks p.1)/\Zo (X7 w1 w1.heap.size G) w2 iv (Zl [p]):=fun p hp=>by
  obtain ⟨j,hj⟩:=List.getElem?_of_mem hp;exact hsp.has j p (List.getElem?_eq_some_iff.1 hj).1 hj
 have hmap2:Qx w2 bb g:=by rw [hbb]; exact hsp.map
 have oH:MOk w2 (X7 w1 w1.heap.size G) fs f g (Za0 ks D) old (dlN ks D) nw tl:=by
  refine ⟨fun k hk => ?_,fun k v hv => ?_,fun k hk => ?_,fun k hk hn => ?_,fun k hk => ?_⟩
  ·obtain ⟨q,hq,rfl⟩:=hgd k hk;obtain ⟨x,va,y,key,h1,_,h2,_⟩:=bK.out.o q hq;exact ⟨x,va,y,h1,(h2.mono fun b hb hl => .inr ⟨hb,by omega⟩).Zf gN⟩
  ·obtain ⟨q,hq,rfl⟩:=hgd k (by rw [hv]; exact fun h=>by cases h);obtain ⟨kv,iv,h1,h2,h3⟩:=hgs q hq;rw [hv] at h1;injection h1 with h1
   subst h1;refine ⟨kv,iv,_,rfl,?_,?_,Zj.Xz _ _⟩
   ·unfold Za0; rw [hat q hq]; exact h2
   ·unfold dlN; rw [hat q hq]; exact h3
  ·obtain ⟨q,hq,rfl⟩:=hgd k hk;refine ⟨?_,bK.out.l q hq⟩;unfold Za0;rw [hat q hq];have:=HF.out.kl;simp only [Option.map_some,Option.getD_some,QS,List.length_map];omega
  ·obtain ⟨q,hq,rfl⟩:=hgd k hk;unfold Za0;rw [hat q hq];exact bK.out.t q hq hn
  ·obtain ⟨q,hq,rfl⟩:=hgd k hk;unfold dlN;rw [hat q hq];exact bK.out.z q hq
 have gP:=Cb (KB:=D.map fun p=>nmR ks p.1) (HF.out.Zf gN fun _ h=>h.elim) (HM.out.chg gN fun h=>h) hmap2 (by omega) (fun b hb=>by simp only [X7] at hb; omega) oH (fun k v hv=>by
   obtain ⟨key,S,told,h1,h2⟩:=oh.out k v hv;exact ⟨key,S,told,(h1.mono fun b hb hl => .inr ⟨hb,by omega⟩).Zf gN,h2⟩) om.out (fun k hk=>by
   obtain ⟨q,hq,rfl⟩:=hgd k hk
   exact List.mem_map.2 ⟨q,hq,rfl⟩) (by rw [List.length_map]; exact fV.out)
 have O7:=Hd hgd
 have O8:=Hd (show ∀ p,p∈D->g (nmR ks p.1)≠none from fun p hp=>by
  obtain ⟨kv,iv,h1,_⟩:=hgs p hp;rw [h1]
  exact fun h=>by cases h)
 have HAT:=Hd hat;have iW:=Hd gN;have HZ1:=Hd hsz1;have hb2:=hmap2.lt;clear hsplit hgd hat hgs hmap2 oH hsp hc1 hc2 hbb hsz1
 go_wp2_with fail
 refine gP.mono ?_;rintro _ w4 ⟨rfl,hc3,gd,hmd,hend⟩;have uH:=hc3.size;have aN:Chg (fun _=>False) w w4:=iW.out.trans hc3 fun i hi h=>by have:=ow.out; have:=HZ1.out; omega
 have HE:=Hd (show ∀ q∈D,∃ v,gd (nmR ks q.1)=some v/\Jd w4 (fun b=>(b<w4.heap.size/\b≠mb)/\(w.heap.size<=b\/G b/\b<w.heap.size)) v (QS ks q.1) (nw (nmR ks q.1)) (if !(nw (nmR ks q.1)).isEmpty then tl (nmR ks q.1) else []) from fun q hq=>by
  obtain ⟨v,h1,h2⟩:=hend.ya _ (O8.out q hq);refine ⟨v,h1,?_⟩;have e:Za0 ks D (nmR ks q.1)=QS ks q.1:=by unfold Za0; rw [HAT.out q hq]; rfl
  rw [e,Bool.true_and] at h2;refine h2.mono fun b hb hl => ?_;have hz1:=HZ1.out;have hz2:=iW.out.size;have hgm:=zC.out b;simp only [X7] at hb
  have h3:w.heap.size<=b\/G b/\b<w.heap.size:=by
   rcases hb with hb | ⟨hb | hb,_⟩
   ·exact .inl (by omega)
   ·exact .inl (by omega)
   ·by_cases hlt:b<w.heap.size
    ·exact .inr ⟨hb.1,hlt⟩
    ·exact .inl (by omega)
  refine ⟨⟨hl,?_⟩,h3⟩;rcases h3 with h3 | h3
  ·omega
  ·exact hgm h3.1)
 have kM:=Hd (show ∀ k,gd k≠none->∃ q∈D,k=nmR ks q.1 from fun k hk=>O7.out k fun e=>hk (hend.no k e));have mJ:=Hd (show mb≠bb by have:=ow.out; have:=HZ1.out; omega);clear gP hend hc3
 go_wp2_with (at_range; go_loud (refine XI hmd rfl _ rfl underlying426 rfl ?_); intro w5 c0 hi0 hcn aZ hs5)
 obtain ⟨rb,hrb⟩:∃ x,x=w4.heap.size:=⟨_,rfl⟩
 rw [<- hrb] at hi0;rw [<- hrb];have HI0:=Hd hi0;have jH:=Hd hrb;have qU:=Hd ((HM.out.chg aN fun h=>h).chg aZ fun h=>h);have oI:=aZ.mono (T':=fun i=>i=mb) fun _ _ h=>h.elim;have aP:=Hd aN;clear hi0 hcn aZ hs5 hrb hmd aN hb2 uH
 go_frame
 go_loopw [9,32] (fun s _ wr=>∃ (left:List UInt8->Bool) (cnt:Nat) (own:Option Nat) (B:Option Addr) (L c:Nat) (ps:List PI) (dn:List (List UInt8)) (fc:List UInt8->Option Value),s = .slice B L c/\Hid (J4 wr rb bb gd left cnt)/\Hid (Qx wr mb fc)/\Hid (Pb w4 wr mb own B L c ps (dn.flatMap (Q7 old nw ax tl)))/\Hid (Dn gd f fc nw left dn)/\Chg (fun i=>i=mb) w4 wr) (fun _ _ wr=>Yf wr rb bb)
 case atStart =>
  refine ⟨_,c0,none,none,0,0,[],[],f,rfl,HI0,qU,Hd ⟨rfl,by decide,rfl,QC.Xz _ _ _ _,fun g h=>(by cases h),fun p h=>(by cases h)⟩,Hd ⟨List.nodup_nil,fun k hk => ?_,fun k h=>(by cases h),fun k=>(by simp)⟩,oI⟩;obtain ⟨v,hv⟩:=Option.ne_none_iff_exists'.1 hk;simp [hv]
 case round =>
  clear HI0 qU oI;obtain ⟨left,cnt,own,B,L,c,ps,dn,dD,rfl,HI,zD,HO,fD,hcw⟩:=hrel;have hi:=HI.out
  go_wp2_with (at_next; go_loud (refine X5 hi rfl _ rfl rfl ?_ ?_))
  ·intro hcnt hdone
   have hdn:∀ k,k∈dn↔∃ q∈D,k=nmR ks q.1:=fun k=>by
    constructor
    ·intro hk; exact kM.out k (fD.out.dm k hk)
    ·rintro ⟨q,hq,rfl⟩;obtain ⟨v,hv,_⟩:=HE.out q hq;have h1:=fD.out.lf (nmR ks q.1) (by rw [hv]; exact fun h=>by cases h);rw [hdone] at h1;by_cases hm:nmR ks q.1∈dn
     ·exact hm
     ·rw [decide_eq_false hm] at h1; cases h1
   have hdl:dn.length<=12:=by
    have h1:=Sb (m:=D.map fun p=>nmR ks p.1) fD.out.nd fun x hx=>by
     obtain ⟨q',hq',e⟩:=(hdn x).1 hx;exact List.mem_map.2 ⟨q',hq',e.symm⟩
    rw [List.length_map] at h1;have:=fV.out;omega
   have hset:Zo (fun _=>True) wr (.slice B L c) (dn.flatMap (Q7 old nw ax tl)):=by
    have h1:=Zo.LL (F:=fun _=>True) (HO.out.o.cs.mono fun _ _ _=>trivial) HO.out.len HO.out.o.fits HO.out.o.Vj fun p hp=>(HO.out.p p hp).mono fun _ _ _=>trivial;rw [HO.out.eq] at h1;exact h1
   have jK:=M3 hset (by have:=Sa old nw ax tl dn; omega) (fun x hx=>by
    obtain ⟨k,hk,hx⟩:=List.mem_flatMap.1 hx;obtain ⟨q,hq,rfl⟩:=(hdn k).1 hk;have hr:=bK.out.r q hq;unfold Q7 at hx;rcases List.mem_append.1 hx with hx | hx
    ·split at hx
     ·cases hx
     ·rename_i h; rw [List.mem_singleton.1 hx]; exact hr.1 h
    ·split at hx
     ·cases hx
     ·rename_i h; rw [List.mem_singleton.1 hx]; exact hr.2 h) (by have:=M1 old nw ax tl dn; omega)
   have oJ:=Hd hdn;have qO:=Hd jK;have HSZ:=Hd hi.lt;clear hi hcnt hdone hdn hdl hset jK HI
   go_wp2_with fail
   refine qO.out.mono ?_;rintro _ w9 ⟨u,S,rfl,hz,hnf,_,eT,dE⟩;have O9:=Hd (And.intro hz (And.intro hnf (And.intro eT dE)));obtain ⟨UA,uc,rfl,_⟩:=eT;clear hz hnf dE
   go_wp2_with fail
   go_ret2
   obtain ⟨hz,hnf,eT,dE⟩:=O9.out;have uI:Chg (fun i=>i=mb) w w9:=((aP.out.mono (T':=fun i=>i=mb) fun _ _ h=>h.elim).trans hcw fun _ _ h=>h).trans dE fun _ _ h=>h.elim;refine ⟨_,S,dn,dD,rfl,hz,hnf,fD.out.nd,oJ.out,eT.mono fun b hb _ => ?_,uI,zD.out.chg dE fun h=>h,fun k hk => ?_,fun q hq => ?_⟩
   ·have h1:wr.heap.size<=b:=hb;have h2:=hcw.size;have h3:=aP.out.size;show w.heap.size<=b;omega
   ·rw [fD.out.fc k,decide_eq_false hk,if_neg (by decide)]
   ·have hm:=(oJ.out (nmR ks q.1)).2 ⟨q,hq,rfl⟩;have hf:=fD.out.fc (nmR ks q.1);rw [decide_eq_true hm,if_pos rfl] at hf;refine ⟨fun h=>by rw [hf,h]; rfl,fun h => ?_⟩;have hn:(nw (nmR ks q.1)).isEmpty=false:=by simpa using h
    obtain ⟨v,hv,hgr⟩:=HE.out q hq;rw [hn] at hf hgr;refine ⟨v,hf.trans hv,?_⟩;exact ((hgr.chg hcw fun b hb _ h=>hb.1.2 h).Zf dE).mono fun b hb _=>hb.2
  ·intro k v w6 cnt2 hlk aO hi2 hlt hc6 hs6 hent;obtain ⟨q,hq,hkq⟩:=kM.out k (by rw [aO]; exact fun h=>by cases h);have zF:=hi.left_eq;have gQ:Chg (fun i=>i=mb\/i=rb) w4 w6:=(hcw.mono (T':=fun i=>i=mb\/i=rb) fun _ _ h => .inl h).trans hc6 fun _ _ h => .inr h;have aaa:w4.heap.size<=rb/\rb<wr.heap.size:=by have:=jH.out; have:=hi.lt; omega
   obtain ⟨v',hv',bV⟩:=HE.out q hq;rw [<- hkq,aO] at hv';rw [<- hkq] at bV;injection hv' with hv'
   subst hv'
   have hgr:=bV.chg gQ fun b hb _ h=>by
    rcases h with h | h
    ·exact hb.1.2 h
    ·omega
   obtain ⟨told,htold⟩:∃ x,x=(if !(nw k).isEmpty then tl k else []):=⟨_,rfl⟩
   rw [<- htold] at hgr;have jL:=Hd htold;clear htold;obtain ⟨bz,bA,IA,ic,TA,tcp,rfl,hk1,hk2,hk3⟩:=hgr.cells;obtain ⟨ox,zy,oy,fE,hov,hx1,hx2,hx3⟩:=bK.out.o q hq;rw [<- hkq] at hov hx2 hx3
   have hkd:k∉dn:=fun hm=>by
    have:=fD.out.lf k (by rw [aO]; exact fun h=>by cases h);rw [hlk,decide_eq_true hm] at this;cases this
   have bR:(dD k).getD Zfr = .agg #[ox,zy,oy]:=by rw [fD.out.fc k,decide_eq_false hkd,if_neg (by decide)]; exact hov
   have kN:Chg (fun i=>i=mb) w w6:=(aP.out.mono (T':=fun i=>i=mb) fun _ _ h=>h.elim).trans gQ fun i hi h=>by
    rcases h with h | h
    ·exact h
    ·have:=aP.out.size; omega
   have oK:=(hx3.mono (G:=fun b=>(b<w4.heap.size/\b≠mb)/\b<w.heap.size) fun b hb hl=>⟨⟨by have:=aP.out.size; omega,zC.out b hb⟩,hl⟩).chg kN fun b hb _ h=>hb.1.2 h;obtain ⟨XA,xc,rfl,_⟩:=id hx1;obtain ⟨OA,oc,rfl,_⟩:=id hx2;obtain ⟨YA,yc,rfl,_⟩:=id hx3;rw [Zu] at bR hov
   have hp2:w6.cell? ⟨p,2,none⟩=some (.map (some mb)):=kN.cell HF.out.c2 fun h=>by
    obtain ⟨es,cl,h2,_⟩:=HM.out;have h3:=HF.out.c2;simp only at h;subst h;simp [World.cell?,h2] at h3
   have hpl:=World.block_lt_of_cell? w6 _ hp2;simp only at hpl;have uJ:Qx w6 mb dD:=zD.out.chg hc6 fun h=>by have:=HM.out.lt; have:=aP.out.size; omega
   have qY:Pb w4 w6 mb own B L c ps (dn.flatMap (Q7 old nw ax tl)):=HO.out.chg hc6 (fun b h hl=>by omega) fun b h e=>by
    obtain ⟨cs,t,fr,hh⟩:=HO.out.o.T3 e;exact (hi.G9 hh).1 h
   have hown6:∀ b,own=some b->b<w6.heap.size:=fun b hb=>qY.o.lt hb;have hst:=ZC;have gT:∀ W,Calls prog 165 #[.int .i64 1,.int .i64 0] W fun e w'=>e = .returned (.complex .f64 (fl 1) (fl 0))/\Chg (fun _=>False) W w':=fun W=>Mi 1 0 W;have gU:∀ W,Calls prog 165 #[.int .i64 0,.int .i64 1] W fun e w'=>e = .returned (.complex .f64 (fl 0) (fl 1))/\Chg (fun _=>False) W w':=fun W=>Mi 0 1 W;have hw4:w4.heap.size<=w6.heap.size:=gQ.size
   have hdl:dn.length<=11:=by
    have h1:=Sb (m:=(D.map fun p=>nmR ks p.1).erase k) fD.out.nd fun x hx=>by
     obtain ⟨q',hq',e⟩:=kM.out x (fD.out.dm x hx);exact (List.mem_erase_of_ne fun e2=>hkd (by subst e2; exact hx)).2 (List.mem_map.2 ⟨q',hq',e.symm⟩)
    have h2:=List.length_erase_of_mem (List.mem_map.2 ⟨q,hq,hkq.symm⟩:k∈D.map fun p=>nmR ks p.1);rw [List.length_map] at h2;have:=fV.out;omega
   have oL:ps.length<=22:=by
    have h1:=Sa old nw ax tl dn;rw [<- qY.eq,List.length_map] at h1;omega
   have jc:=Hd qY;have dF:=Hd uJ;have HI2:=Hd hi2;have HQ:=Hd (And.intro hq (And.intro hkq (And.intro hlk aO)));have aG:=Hd (And.intro hlt zF);have HK1:=Hd hk1;have zG:=Hd hk3;have zH:=Hd oK;have kP:=Hd gQ;have HOWN:=Hd hown6;have gV:=Hd oL;clear hi hi2 qY hq hkq hlk aO hlt zF hk1 hk2 hk3 hx1 hx2 hx3 oK hgr bV hov hkd gQ kN hown6 hdl oL HI HO hs6 hc6
   have iT:=Hd (show ∀ b,own=some b->b≠mb/\b≠rb/\b≠bb from fun b hb=>by
    obtain ⟨cs,t,fr,hh⟩:=jc.out.o.T3 hb;have h1:=HI2.out.G9 hh;refine ⟨fun e => ?_,h1.1,h1.2⟩;obtain ⟨es,cl,h2,_⟩:=dF.out;rw [e,h2] at hh
    cases hh)
   by_cases ho:old k=[]
   ·have hol:((old k).length:Int)=0:=by rw [ho]; rfl
    by_cases hn:nw k=[]
    ·have:=HQ.out.2.1;rcases bK.out.ne q HQ.out.1 with h | h
     ·rw [<- this] at h; exact absurd ho h
     ·rw [<- this] at h; exact absurd hn h
    ·have hnl:(((nw k).length:Int)==0)=false:=by
      have:(nw k).length≠0:=fun e=>hn (List.eq_nil_of_length_eq_zero e);rw [beq_eq_false_iff_ne];omega
     have HH:=Hd (And.intro ho hn);clear ho hn
     go_wp2_with (at_lookup; go_loud (refine WS (dF.out.chg ((Chg.refl (fun _=>False) w6).alloc _) fun h=>h) rfl _ _ rfl underlying426 underlying9 (Xe _) k _ bR rfl rfl ?_))
     obtain ⟨ww,gW⟩:∃ x,x=((w6.alloc (.cells #[.slice bz (QS ks q.1).length bA,.slice IA (nw k).length ic,.slice TA told.length tcp] 431)).alloc (.cells #[.slice XA fE.length xc,.slice OA (old k).length oc,.slice YA (ax k).length yc] 431)):=⟨_,rfl⟩
     rw [<- gW]
     have kQ:(ww.heap[w6.heap.size]? = some (.cells #[.slice bz (QS ks q.1).length bA,.slice IA (nw k).length ic,.slice TA told.length tcp] 431 (0,0))/\ww.heap[w6.heap.size+1]? = some (.cells #[.slice XA fE.length xc,.slice OA (old k).length oc,.slice YA (ax k).length yc] 431 (0,0)))/\Chg (fun _=>False) w6 ww/\ww.heap.size=w6.heap.size+2:=by
      subst gW;exact ⟨Qw (Chg.refl _ _),((Chg.refl _ _).alloc _).alloc _,by show ((w6.heap.push _).push _).size=_; rw [Array.size_push,Array.size_push]⟩
     obtain ⟨⟨hgb,bq⟩,hcW,hszW⟩:=kQ;have HOW:=Hd (jc.out.chg hcW (fun _ h=>h.elim) fun _ h=>h.elim);have dK:=Hd hszW;have bg:=Hd hcW;have kK:=Hd hgb;clear gW hszW bR;have uK:ww.cell? ⟨p,2,none⟩=some (.map (some mb)):=bg.out.cell hp2 fun h=>h;have uL:Qx ww mb dD:=dF.out.chg bg.out fun h=>h;have oM:=HOW;have HIS:=Hd (HI2.out.chg bg.out (fun h=>h) fun h=>h);have HAS:=Hd (And.intro iT.out (show ∀ b,own=some b->b≠w6.heap.size from fun b hb=>by have:=HOWN.out b hb; omega));have gX:=Hd ((kP.out.trans bg.out fun _ _ h=>h.elim).mono (T':=fun i=>i=mb) fun i hi h=>by omega);have kR:=Hd ((zG.out.mono (G:=fun b=>(b<w4.heap.size/\b≠mb)/\b<w4.heap.size) fun b hb _=>⟨hb.1,hb.1.1⟩).Zf bg.out);have oN:=hgb;have fC:p<ww.heap.size:=by have:=dK.out; omega
     have oO:w6.heap.size<ww.heap.size:=by have:=dK.out; omega
     clear hp2;have s0:(ww.drew).cell? ⟨p,2,none⟩=some (.map (some mb)):=uK;have oP:(ww.drew).heap[w6.heap.size]? = some (.cells #[.slice bz (QS ks q.1).length bA,.slice IA (nw k).length ic,.slice TA told.length tcp] 431 (0,0)):=hgb;obtain ⟨s1,s2,s3⟩:=Z1 oP;have oQ:Qx (ww.drew) mb dD:=uL;refine Zh [3,5] (S:=fun wx=>wx.cell? ⟨p,2,none⟩=some (.map (some mb))/\wx.cell? ⟨w6.heap.size,0,none⟩=some (.slice bz (QS ks q.1).length bA)/\wx.cell? ⟨w6.heap.size,1,none⟩=some (.slice IA (nw k).length ic)/\wx.cell? ⟨w6.heap.size,2,none⟩=some (.slice TA told.length tcp)) (by kernel_rfl) ⟨s0,s1,s2,s3⟩ (fun hHeld => ?_);refine aa 0 (some 63) ?_;refine aa 1 (some 64) ?_;refine aa 2 (some 65) ?_;refine az 3 (some 66) ?_;refine aa 4 (some 67) ?_;refine az 5 (some 68) ?_;refine Zg (rs:=[6]) (by kernel_rfl) (by simp) ?_;refine Zc.ZQ rfl (by kernel_rfl) (fun K hK => ?_) Zc.nil;refine Pa oQ rfl _ _ _ rfl underlying426 underlying9 k (.agg #[.slice bz (QS ks q.1).length bA,.slice IA (nw k).length ic,.slice TA told.length tcp]) rfl rfl rfl ?_;intro w8 oU hc8 uM;refine hK.out _ _ ?_;clear hK K
     try simp only [Act.put,List.setIfInBounds_toArray,List.set_cons_zero,List.set_cons_succ]
     refine Zr (by kernel_rfl) ?_ _;have bX:Chg (fun i=>i=mb) ww w8:=((Chg.refl _ ww).drew).trans hc8 fun _ _ h=>h;have gY:mb≠w6.heap.size:=by have:=HM.out.lt; have:=aP.out.size; omega
     have dP:=Hd (oM.out.chg bX (fun b hb _=>hb) fun b hb e=>(HAS.out.1 b e).1 hb);have kS:=bX.heap oN fun e=>gY e.symm;obtain ⟨_,_,oV⟩:=Z1 kS;have kT:(w8.drew).cell? ⟨w6.heap.size,2,none⟩=some (.slice TA told.length tcp):=oV;have uN:=Hd oU;have gZ:=Hd bX;have uO:w6.heap.size<w8.heap.size:=lt_of_block kS;clear oU hc8 uM kS oQ oP s0 s1 s2 s3 oN bX;have oW:=HAS.out.2
     go_wp2_with fail
     refine Zh [2] (S:=fun wx=>wx.cell? ⟨w6.heap.size,2,none⟩=some (.slice TA told.length tcp)) (by kernel_rfl) kT (fun hHeld => ?_);refine aa 0 (some 69) ?_;refine aa 1 (some 70) ?_;refine az 2 (some 71) ?_;refine Zg (rs:=[3]) (by kernel_rfl) (by simp) ?_;refine Zc.cons rfl (fun K hK => ?_) Zc.nil;go_simp;refine (gT _).mono ?_;rintro _ mK ⟨rfl,uP⟩;have kU:=uP.cell kT (fun h=>h);refine hK.out _ _ ?_ ?_
     ·(intro _; exact kU)
     clear hK K
     try simp only [Act.put,List.setIfInBounds_toArray,List.set_cons_zero,List.set_cons_succ]
     refine aa 4 (some 73) ?_;refine Zg (rs:=[5]) (by kernel_rfl) (by simp) ?_;refine Zc.cons rfl (fun K hK => ?_) Zc.nil;go_simp;have kV:(mK.alloc (.cells #[.slice TA told.length tcp,.complex .f64 (fl 1) (fl 0)] 59)).cell? ⟨w6.heap.size,2,none⟩=some (.slice TA told.length tcp):=((Chg.refl (fun _=>False) mK).alloc _).cell kU (fun h=>h);refine hK.out _ _ ?_ ?_
     ·(intro _; exact kV)
     clear hK K
     try simp only [Act.put,List.setIfInBounds_toArray,List.set_cons_zero,List.set_cons_succ]
     refine Zg (rs:=[6]) (by kernel_rfl) (by simp) ?_;refine Zc.cons rfl (fun K hK => ?_) Zc.nil;have zI:=Hd (X3 mK (.slice TA told.length tcp) (.complex .f64 (fl 1) (fl 0)) 59);have fF:Chg (fun _=>False) w8 mK:=((Chg.refl (fun _=>False) w8).drew).trans uP fun _ _ h=>h;have oZ:=Hd (dP.out.o.chg (fF.alloc (.cells #[.slice TA told.length tcp,.complex .f64 (fl 1) (fl 0)] 59)) fun _ _ h=>h);refine Q8 rfl _ _ 44 44 rfl 59 2 40 Vz own _ L c 1 (ZM ps) [.slice TA told.length tcp,.complex .f64 (fl 1) (fl 0)] _ rfl rfl oZ.out (X2.slice zI.out) (by simp [Value.oneCell']) (L+1) rfl ?_ ?_ ?_
     ·have:=dP.out.len; have:=dP.out.few; omega
     ·have:=dP.out.len; have:=dP.out.few; omega
     intro uQ Bc cc vc jM gF eU;have zJ:=Hd jM;clear jM;have o5:∀ b,own=some b->b≠w6.heap.size:=fun b hb=>(by have:=HOWN.out b hb; omega)
     have o6:=eU.cell kV (fun h=>o5 _ h rfl);go_simp;refine hK.out _ _ ?_ ?_
     ·(intro _; exact o6)
     clear hK K
     try simp only [Act.put,List.setIfInBounds_toArray,List.set_cons_zero,List.set_cons_succ]
     refine aa 7 (some 9) ?_;refine Zr (by kernel_rfl) ?_ _
     have htl:told=tl k:=by
      rw [jL.out];have:(nw k).isEmpty=false:=by simpa using HH.out.2
      rw [this]; rfl
     have kW:told.length<=1000000:=by
      have h1:=(bK.out.r q HQ.out.1).2;rw [<- HQ.out.2.1] at h1;have:=Xd (h1 HH.out.2);rw [htl];omega
     have dQ:=fF.size;have uR:=Hd (dP.out.push (x:=⟨told,1,0⟩) (fF.alloc (.cells #[.slice TA told.length tcp,.complex .f64 (fl 1) (fl 0)] 59)) zJ.out gF (Nat.le_trans (show w4.heap.size<=mK.heap.size by have:=dP.out.o; have:=gX.out.size; have:=gZ.out.size; omega) ((Chg.refl (fun _=>False) mK).alloc _).size) eU ⟨((kR.out.mono fun b hb _=>hb.1).chg gZ.out fun b hb _ h=>hb.2 h).Zf (fF.alloc _),(show 1<=1125899906842624 by decide),Nat.zero_le _,kW⟩ (by have:=gV.out; omega));have o7:Chg (fun b=>own=some b) w8 vc:=((fF.alloc _).mono fun _ _ h=>h.elim).trans eU fun _ _ h=>h;have jd:=Hd o7;clear fF uP zJ gF eU zI oZ o5 o6 kT kU kV o7 dQ gY oV
     go_wp2_with fail
     go_roundw
     case rel =>
      have hmb:mb≠rb/\mb≠bb:=⟨by have:=HM.out.lt; have:=aP.out.size; omega,mJ.out⟩
      obtain ⟨hq,hkq,hlk,aO⟩:=HQ.out;refine ⟨_,cnt2,uQ,Bc,L+1,cc,(ps++[(.slice TA told.length tcp,⟨told,1,0⟩)]),dn++[k],_,rfl,Hd ((HIS.out.chg gZ.out (fun e=>hmb.2 e.symm) fun e=>hmb.1 e.symm).chg jd.out (fun e=>(HAS.out.1 _ e).2.2 rfl) fun e=>(HAS.out.1 _ e).2.1 rfl),Hd (uN.out.chg jd.out fun e=>(HAS.out.1 _ e).1 rfl),Hd ?_,Hd (fD.out.step (by rw [aO]; exact fun h=>by cases h) hlk (fun x hx=>QF _ _ hx) ((Z7 _ _ _).trans ?_)),((gX.out.trans gZ.out fun _ _ h=>h).mono (T':=fun i=>i=mb\/w4.heap.size<=i) (fun i hi h => .inl h) |>.trans jd.out fun i hi e => .inr (oM.out.n _ e)).mono fun i hi h=>by omega⟩
      ·have e1:(dn++[k]).flatMap (Q7 old nw ax tl)=(dn.flatMap (Q7 old nw ax tl))++[⟨told,1,0⟩]:=by
        rw [List.flatMap_append,htl];simp [Q7,HH.out.1,HH.out.2]
       rw [e1];exact uR.out
      ·have:(nw k).isEmpty=false:=by simpa using HH.out.2
       rw [this,aO];rfl
     case measure =>
      have hmb:mb≠rb/\mb≠bb:=⟨by have:=HM.out.lt; have:=aP.out.size; omega,mJ.out⟩
      rw [aG.out.2,((HIS.out.chg gZ.out (fun e=>hmb.2 e.symm) fun e=>hmb.1 e.symm).chg jd.out (fun e=>(HAS.out.1 _ e).2.2 rfl) fun e=>(HAS.out.1 _ e).2.1 rfl).left_eq];exact aG.out.1
   ·have hol:(0:Int)<((old k).length:Int):=by
     have:(old k).length≠0:=fun e=>ho (List.eq_nil_of_length_eq_zero e);omega
    by_cases hn:nw k=[]
    ·have hnl:((nw k).length:Int)=0:=by rw [hn]; rfl
     have HH:=Hd (And.intro ho hn);clear ho hn
     go_wp2_with (at_lookup; go_loud (refine WS (dF.out.chg ((Chg.refl (fun _=>False) w6).alloc _) fun h=>h) rfl _ _ rfl underlying426 underlying9 (Xe _) k _ bR rfl rfl ?_))
     obtain ⟨ww,gW⟩:∃ x,x=((w6.alloc (.cells #[.slice bz (QS ks q.1).length bA,.slice IA (nw k).length ic,.slice TA told.length tcp] 431)).alloc (.cells #[.slice XA fE.length xc,.slice OA (old k).length oc,.slice YA (ax k).length yc] 431)):=⟨_,rfl⟩
     rw [<- gW]
     have kQ:(ww.heap[w6.heap.size]? = some (.cells #[.slice bz (QS ks q.1).length bA,.slice IA (nw k).length ic,.slice TA told.length tcp] 431 (0,0))/\ww.heap[w6.heap.size+1]? = some (.cells #[.slice XA fE.length xc,.slice OA (old k).length oc,.slice YA (ax k).length yc] 431 (0,0)))/\Chg (fun _=>False) w6 ww/\ww.heap.size=w6.heap.size+2:=by
      subst gW;exact ⟨Qw (Chg.refl _ _),((Chg.refl _ _).alloc _).alloc _,by show ((w6.heap.push _).push _).size=_; rw [Array.size_push,Array.size_push]⟩
     obtain ⟨⟨hgb,bq⟩,hcW,hszW⟩:=kQ;have HOW:=Hd (jc.out.chg hcW (fun _ h=>h.elim) fun _ h=>h.elim);have dK:=Hd hszW;have bg:=Hd hcW;have kK:=Hd hgb;clear gW hszW bR;obtain ⟨_,_,uS⟩:=Z1 bq;have dR:(ww.drew).cell? ⟨w6.heap.size+1,2,none⟩=some (.slice YA (ax k).length yc):=uS;refine Zh [2] (S:=fun wx=>wx.cell? ⟨(w6.heap.size+1),2,none⟩=some (.slice YA (ax k).length yc)) (by kernel_rfl) dR (fun hHeld => ?_);refine aa 0 (some 47) ?_;refine aa 1 (some 48) ?_;refine az 2 (some 49) ?_;refine Zg (rs:=[3]) (by kernel_rfl) (by simp) ?_;refine Zc.cons rfl (fun K hK => ?_) Zc.nil;go_simp;refine (gU _).mono ?_;rintro _ dS ⟨rfl,kX⟩;have ib:=kX.cell dR (fun h=>h);refine hK.out _ _ ?_ ?_
     ·(intro _; exact ib)
     clear hK K
     try simp only [Act.put,List.setIfInBounds_toArray,List.set_cons_zero,List.set_cons_succ]
     refine aa 4 (some 51) ?_;refine Zg (rs:=[5]) (by kernel_rfl) (by simp) ?_;refine Zc.cons rfl (fun K hK => ?_) Zc.nil;go_simp;have ig:(dS.alloc (.cells #[.slice YA (ax k).length yc,.complex .f64 (fl 0) (fl 1)] 59)).cell? ⟨(w6.heap.size+1),2,none⟩=some (.slice YA (ax k).length yc):=((Chg.refl (fun _=>False) dS).alloc _).cell ib (fun h=>h);refine hK.out _ _ ?_ ?_
     ·(intro _; exact ig)
     clear hK K
     try simp only [Act.put,List.setIfInBounds_toArray,List.set_cons_zero,List.set_cons_succ]
     refine Zg (rs:=[6]) (by kernel_rfl) (by simp) ?_;refine Zc.cons rfl (fun K hK => ?_) Zc.nil;have o8:=Hd (X3 dS (.slice YA (ax k).length yc) (.complex .f64 (fl 0) (fl 1)) 59);have aY:Chg (fun _=>False) ww dS:=((Chg.refl (fun _=>False) ww).drew).trans kX fun _ _ h=>h;have ik:=Hd (HOW.out.o.chg (aY.alloc (.cells #[.slice YA (ax k).length yc,.complex .f64 (fl 0) (fl 1)] 59)) fun _ _ h=>h);refine Q8 rfl _ _ 44 44 rfl 59 2 40 Vz own _ L c 1 (ZM ps) [.slice YA (ax k).length yc,.complex .f64 (fl 0) (fl 1)] _ rfl rfl ik.out (X2.slice o8.out) (by simp [Value.oneCell']) (L+1) rfl ?_ ?_ ?_
     ·have:=HOW.out.len; have:=HOW.out.few; omega
     ·have:=HOW.out.len; have:=HOW.out.few; omega
     intro cu Ba ca va dG dU aT;have o9:=Hd dG;clear dG;have il:∀ b,own=some b->b≠(w6.heap.size+1):=fun b hb=>(by have:=HOWN.out b hb; omega)
     have iq:=aT.cell ig (fun h=>il _ h rfl);go_simp;refine hK.out _ _ ?_ ?_
     ·(intro _; exact iq)
     clear hK K
     try simp only [Act.put,List.setIfInBounds_toArray,List.set_cons_zero,List.set_cons_succ]
     refine aa 7 (some 9) ?_;refine Zr (by kernel_rfl) ?_ _
     have kY:(ax k).length<=1000000:=by
      have h1:=(bK.out.r q HQ.out.1).1;rw [<- HQ.out.2.1] at h1;have:=Xd (h1 HH.out.1);omega
     have dQ:=aY.size;have mM:=Hd (HOW.out.push (x:=⟨ax k,0,1⟩) (aY.alloc (.cells #[.slice YA (ax k).length yc,.complex .f64 (fl 0) (fl 1)] 59)) o9.out dU (Nat.le_trans (show w4.heap.size<=dS.heap.size by have:=dK.out; omega) ((Chg.refl (fun _=>False) dS).alloc _).size) aT ⟨((zH.out.mono fun b hb _=>hb.1).Zf bg.out).Zf (aY.alloc _),Nat.zero_le _,(show 1<=1125899906842624 by decide),kY⟩ (by have:=gV.out; omega));have cz:Chg (fun b=>own=some b) ww va:=((aY.alloc _).mono fun _ _ h=>h.elim).trans aT fun _ _ h=>h;have fG:=cz.heap hgb fun e=>by have:=HOWN.out _ e; omega
     have hpw:p<w.heap.size:=World.block_lt_of_cell? w _ HF.out.c2
     have kZ:va.cell? ⟨p,2,none⟩=some (.map (some mb)):=cz.cell (bg.out.cell hp2 fun h=>h) fun e=>by
      have h1:w4.heap.size<=p:=jc.out.n _ e;have h2:=aP.out.size;omega
     have fH:Qx va mb dD:=(dF.out.chg bg.out fun h=>h).chg cz fun e=>(iT.out _ e).1 rfl;have fI:=Hd ((HI2.out.chg bg.out (fun h=>h) fun h=>h).chg cz (fun e=>(iT.out _ e).2.2 rfl) fun e=>(iT.out _ e).2.1 rfl);have bE:Chg (fun i=>i=mb) w4 va:=(((kP.out.trans bg.out fun _ _ h=>h.elim).mono (T':=fun i=>i=mb\/w4.heap.size<=i) fun i hi h=>by omega).trans cz fun i hi e => .inr (jc.out.n _ e)).mono fun i hi h=>by omega
     have iw:∀ b,cu=some b->b≠w6.heap.size:=fun b hb=>by
      rcases dU with e | e
      ·rw [e] at hb; have:=HOWN.out b hb; omega
      ·rw [e] at hb; injection hb with hb; have h8:=((Chg.refl (fun _=>False) dS).alloc (.cells #[.slice YA (ax k).length yc,.complex .f64 (fl 0) (fl 1)] 59)).size; have:=dK.out; omega
     have iy:=cz.size
     have iA:∀ b,cu=some b->b≠mb/\b≠rb/\b≠bb:=fun b hb=>by
      obtain ⟨cs,t,fr,hh⟩:=mM.out.o.T3 hb;have h1:=fI.out.G9 hh;refine ⟨fun e => ?_,h1.1,h1.2⟩;obtain ⟨es,cl,h2,_⟩:=fH;rw [e,h2] at hh;cases hh
     have fC:p<va.heap.size:=by have:=dK.out; omega
     have oO:w6.heap.size<va.heap.size:=by have:=dK.out; omega
     have mO:=Hd (And.intro cz (And.intro bE (And.intro iw iA)));clear iA aY kX o9 dU aT o8 ik il iq dR hgb bq hpw iw bE cz iy dQ hp2;obtain ⟨d0,d1,d2⟩:=Z1 fG
     go_wp2_with (at_delete; go_loud (refine GM fH rfl _ _ rfl underlying426 underlying9 k rfl rfl ?_))
     intro w9 zK dE hs9;have HM9:=Hd zK;clear zK fH d0 d1 d2 fG kZ
     go_wp2_with fail
     go_roundw
     case rel =>
      obtain ⟨cz,bE,_⟩:=mO.out;have hmb:mb≠rb/\mb≠bb:=⟨by have:=HM.out.lt; have:=aP.out.size; omega,mJ.out⟩
      obtain ⟨hq,hkq,hlk,aO⟩:=HQ.out;refine ⟨_,cnt2,cu,Ba,L+1,ca,(ps++[(.slice YA (ax k).length yc,⟨ax k,0,1⟩)]),dn++[k],_,rfl,Hd (fI.out.chg dE (fun e=>hmb.2 e.symm) fun e=>hmb.1 e.symm),HM9,Hd ?_,Hd (fD.out.step (by rw [aO]; exact fun h=>by cases h) hlk (fun x hx=>QF _ _ hx) ((Z7 _ _ _).trans (by rw [HH.out.2]; rfl))),bE.trans dE fun _ _ h=>h⟩
      have h1:=mM.out.chg dE (fun b hb _=>hb) fun b hb e=>by
       subst hb;obtain ⟨cs,t,fr,hh⟩:=mM.out.o.T3 e;obtain ⟨es,cl,h2,_⟩:=(dF.out.chg bg.out fun h=>h).chg cz fun e=>(iT.out _ e).1 rfl;rw [h2] at hh;cases hh
      have e1:(dn++[k]).flatMap (Q7 old nw ax tl)=dn.flatMap (Q7 old nw ax tl)++[⟨ax k,0,1⟩]:=by
       rw [List.flatMap_append];simp [Q7,HH.out.1,HH.out.2]
      rw [e1];exact h1
     case measure =>
      have hmb:mb≠rb/\mb≠bb:=⟨by have:=HM.out.lt; have:=aP.out.size; omega,mJ.out⟩
      rw [aG.out.2,(fI.out.chg dE (fun e=>hmb.2 e.symm) fun e=>hmb.1 e.symm).left_eq];exact aG.out.1
    ·have hnl:(((nw k).length:Int)==0)=false:=by
      have:(nw k).length≠0:=fun e=>hn (List.eq_nil_of_length_eq_zero e);rw [beq_eq_false_iff_ne];omega
     have HH:=Hd (And.intro ho hn);clear ho hn
     go_wp2_with (at_lookup; go_loud (refine WS (dF.out.chg ((Chg.refl (fun _=>False) w6).alloc _) fun h=>h) rfl _ _ rfl underlying426 underlying9 (Xe _) k _ bR rfl rfl ?_))
     obtain ⟨ww,gW⟩:∃ x,x=((w6.alloc (.cells #[.slice bz (QS ks q.1).length bA,.slice IA (nw k).length ic,.slice TA told.length tcp] 431)).alloc (.cells #[.slice XA fE.length xc,.slice OA (old k).length oc,.slice YA (ax k).length yc] 431)):=⟨_,rfl⟩
     rw [<- gW]
     have kQ:(ww.heap[w6.heap.size]? = some (.cells #[.slice bz (QS ks q.1).length bA,.slice IA (nw k).length ic,.slice TA told.length tcp] 431 (0,0))/\ww.heap[w6.heap.size+1]? = some (.cells #[.slice XA fE.length xc,.slice OA (old k).length oc,.slice YA (ax k).length yc] 431 (0,0)))/\Chg (fun _=>False) w6 ww/\ww.heap.size=w6.heap.size+2:=by
      subst gW;exact ⟨Qw (Chg.refl _ _),((Chg.refl _ _).alloc _).alloc _,by show ((w6.heap.push _).push _).size=_; rw [Array.size_push,Array.size_push]⟩
     obtain ⟨⟨hgb,bq⟩,hcW,hszW⟩:=kQ;have HOW:=Hd (jc.out.chg hcW (fun _ h=>h.elim) fun _ h=>h.elim);have dK:=Hd hszW;have bg:=Hd hcW;have kK:=Hd hgb;clear gW hszW bR;obtain ⟨_,_,uS⟩:=Z1 bq;have dR:(ww.drew).cell? ⟨w6.heap.size+1,2,none⟩=some (.slice YA (ax k).length yc):=uS;refine Zh [2] (S:=fun wx=>wx.cell? ⟨(w6.heap.size+1),2,none⟩=some (.slice YA (ax k).length yc)) (by kernel_rfl) dR (fun hHeld => ?_);refine aa 0 (some 47) ?_;refine aa 1 (some 48) ?_;refine az 2 (some 49) ?_;refine Zg (rs:=[3]) (by kernel_rfl) (by simp) ?_;refine Zc.cons rfl (fun K hK => ?_) Zc.nil;go_simp;refine (gU _).mono ?_;rintro _ dS ⟨rfl,kX⟩;have ib:=kX.cell dR (fun h=>h);refine hK.out _ _ ?_ ?_
     ·(intro _; exact ib)
     clear hK K
     try simp only [Act.put,List.setIfInBounds_toArray,List.set_cons_zero,List.set_cons_succ]
     refine aa 4 (some 51) ?_;refine Zg (rs:=[5]) (by kernel_rfl) (by simp) ?_;refine Zc.cons rfl (fun K hK => ?_) Zc.nil;go_simp;have ig:(dS.alloc (.cells #[.slice YA (ax k).length yc,.complex .f64 (fl 0) (fl 1)] 59)).cell? ⟨(w6.heap.size+1),2,none⟩=some (.slice YA (ax k).length yc):=((Chg.refl (fun _=>False) dS).alloc _).cell ib (fun h=>h);refine hK.out _ _ ?_ ?_
     ·(intro _; exact ig)
     clear hK K
     try simp only [Act.put,List.setIfInBounds_toArray,List.set_cons_zero,List.set_cons_succ]
     refine Zg (rs:=[6]) (by kernel_rfl) (by simp) ?_;refine Zc.cons rfl (fun K hK => ?_) Zc.nil;have o8:=Hd (X3 dS (.slice YA (ax k).length yc) (.complex .f64 (fl 0) (fl 1)) 59);have aY:Chg (fun _=>False) ww dS:=((Chg.refl (fun _=>False) ww).drew).trans kX fun _ _ h=>h;have ik:=Hd (HOW.out.o.chg (aY.alloc (.cells #[.slice YA (ax k).length yc,.complex .f64 (fl 0) (fl 1)] 59)) fun _ _ h=>h);refine Q8 rfl _ _ 44 44 rfl 59 2 40 Vz own _ L c 1 (ZM ps) [.slice YA (ax k).length yc,.complex .f64 (fl 0) (fl 1)] _ rfl rfl ik.out (X2.slice o8.out) (by simp [Value.oneCell']) (L+1) rfl ?_ ?_ ?_
     ·have:=HOW.out.len; have:=HOW.out.few; omega
     ·have:=HOW.out.len; have:=HOW.out.few; omega
     intro cu Ba ca va dG dU aT;have o9:=Hd dG;clear dG;have il:∀ b,own=some b->b≠(w6.heap.size+1):=fun b hb=>(by have:=HOWN.out b hb; omega)
     have iq:=aT.cell ig (fun h=>il _ h rfl);go_simp;refine hK.out _ _ ?_ ?_
     ·(intro _; exact iq)
     clear hK K
     try simp only [Act.put,List.setIfInBounds_toArray,List.set_cons_zero,List.set_cons_succ]
     refine aa 7 (some 9) ?_;refine Zr (by kernel_rfl) ?_ _
     have kY:(ax k).length<=1000000:=by
      have h1:=(bK.out.r q HQ.out.1).1;rw [<- HQ.out.2.1] at h1;have:=Xd (h1 HH.out.1);omega
     have dQ:=aY.size;have mM:=Hd (HOW.out.push (x:=⟨ax k,0,1⟩) (aY.alloc (.cells #[.slice YA (ax k).length yc,.complex .f64 (fl 0) (fl 1)] 59)) o9.out dU (Nat.le_trans (show w4.heap.size<=dS.heap.size by have:=dK.out; omega) ((Chg.refl (fun _=>False) dS).alloc _).size) aT ⟨((zH.out.mono fun b hb _=>hb.1).Zf bg.out).Zf (aY.alloc _),Nat.zero_le _,(show 1<=1125899906842624 by decide),kY⟩ (by have:=gV.out; omega));have cz:Chg (fun b=>own=some b) ww va:=((aY.alloc _).mono fun _ _ h=>h.elim).trans aT fun _ _ h=>h;have fG:=cz.heap hgb fun e=>by have:=HOWN.out _ e; omega
     have hpw:p<w.heap.size:=World.block_lt_of_cell? w _ HF.out.c2
     have kZ:va.cell? ⟨p,2,none⟩=some (.map (some mb)):=cz.cell (bg.out.cell hp2 fun h=>h) fun e=>by
      have h1:w4.heap.size<=p:=jc.out.n _ e;have h2:=aP.out.size;omega
     have fH:Qx va mb dD:=(dF.out.chg bg.out fun h=>h).chg cz fun e=>(iT.out _ e).1 rfl;have fI:=Hd ((HI2.out.chg bg.out (fun h=>h) fun h=>h).chg cz (fun e=>(iT.out _ e).2.2 rfl) fun e=>(iT.out _ e).2.1 rfl);have bE:Chg (fun i=>i=mb) w4 va:=(((kP.out.trans bg.out fun _ _ h=>h.elim).mono (T':=fun i=>i=mb\/w4.heap.size<=i) fun i hi h=>by omega).trans cz fun i hi e => .inr (jc.out.n _ e)).mono fun i hi h=>by omega
     have iw:∀ b,cu=some b->b≠w6.heap.size:=fun b hb=>by
      rcases dU with e | e
      ·rw [e] at hb; have:=HOWN.out b hb; omega
      ·rw [e] at hb; injection hb with hb; have h8:=((Chg.refl (fun _=>False) dS).alloc (.cells #[.slice YA (ax k).length yc,.complex .f64 (fl 0) (fl 1)] 59)).size; have:=dK.out; omega
     have iy:=cz.size
     have iA:∀ b,cu=some b->b≠mb/\b≠rb/\b≠bb:=fun b hb=>by
      obtain ⟨cs,t,fr,hh⟩:=mM.out.o.T3 hb;have h1:=fI.out.G9 hh;refine ⟨fun e => ?_,h1.1,h1.2⟩;obtain ⟨es,cl,h2,_⟩:=fH;rw [e,h2] at hh;cases hh
     have fC:p<va.heap.size:=by have:=dK.out; omega
     have oO:w6.heap.size<va.heap.size:=by have:=dK.out; omega
     have mO:=Hd (And.intro cz (And.intro bE (And.intro iw iA)));clear iA aY kX o9 dU aT o8 ik il iq dR hgb bq hpw iw bE cz iy dQ hp2;obtain ⟨d0,d1,d2⟩:=Z1 fG
     go_wp2_with fail
     have oM:=mM;have HIS:=fI;have HAS:=Hd (And.intro mO.out.2.2.2 mO.out.2.2.1);have gX:=Hd mO.out.2.1;have kR:=Hd (((zG.out.mono (G:=fun b=>(b<w4.heap.size/\b≠mb)/\b<w4.heap.size) fun b hb _=>⟨hb.1,hb.1.1⟩).Zf bg.out).chg mO.out.1 fun b hb _ e=>by have:=jc.out.n _ e; omega);have oN:=fG;have s0:(va.drew).cell? ⟨p,2,none⟩=some (.map (some mb)):=kZ;have oP:(va.drew).heap[w6.heap.size]? = some (.cells #[.slice bz (QS ks q.1).length bA,.slice IA (nw k).length ic,.slice TA told.length tcp] 431 (0,0)):=fG;obtain ⟨s1,s2,s3⟩:=Z1 oP;have oQ:Qx (va.drew) mb dD:=fH;refine Zh [3,5] (S:=fun wx=>wx.cell? ⟨p,2,none⟩=some (.map (some mb))/\wx.cell? ⟨w6.heap.size,0,none⟩=some (.slice bz (QS ks q.1).length bA)/\wx.cell? ⟨w6.heap.size,1,none⟩=some (.slice IA (nw k).length ic)/\wx.cell? ⟨w6.heap.size,2,none⟩=some (.slice TA told.length tcp)) (by kernel_rfl) ⟨s0,s1,s2,s3⟩ (fun hHeld => ?_);refine aa 0 (some 63) ?_;refine aa 1 (some 64) ?_;refine aa 2 (some 65) ?_;refine az 3 (some 66) ?_;refine aa 4 (some 67) ?_;refine az 5 (some 68) ?_;refine Zg (rs:=[6]) (by kernel_rfl) (by simp) ?_;refine Zc.ZQ rfl (by kernel_rfl) (fun K hK => ?_) Zc.nil;refine Pa oQ rfl _ _ _ rfl underlying426 underlying9 k (.agg #[.slice bz (QS ks q.1).length bA,.slice IA (nw k).length ic,.slice TA told.length tcp]) rfl rfl rfl ?_;intro w8 oU hc8 uM;refine hK.out _ _ ?_;clear hK K
     try simp only [Act.put,List.setIfInBounds_toArray,List.set_cons_zero,List.set_cons_succ]
     refine Zr (by kernel_rfl) ?_ _;have bX:Chg (fun i=>i=mb) va w8:=((Chg.refl _ va).drew).trans hc8 fun _ _ h=>h;have gY:mb≠w6.heap.size:=by have:=HM.out.lt; have:=aP.out.size; omega
     have dP:=Hd (oM.out.chg bX (fun b hb _=>hb) fun b hb e=>(HAS.out.1 b e).1 hb);have kS:=bX.heap oN fun e=>gY e.symm;obtain ⟨_,_,oV⟩:=Z1 kS;have lg:(w8.drew).cell? ⟨w6.heap.size,2,none⟩=some (.slice TA told.length tcp):=oV;have uN:=Hd oU;have gZ:=Hd bX;have uO:w6.heap.size<w8.heap.size:=lt_of_block kS;clear oU hc8 uM kS oQ oP s0 s1 s2 s3 oN bX;have oW:=HAS.out.2
     go_wp2_with fail
     refine Zh [2] (S:=fun wx=>wx.cell? ⟨w6.heap.size,2,none⟩=some (.slice TA told.length tcp)) (by kernel_rfl) lg (fun hHeld => ?_);refine aa 0 (some 69) ?_;refine aa 1 (some 70) ?_;refine az 2 (some 71) ?_;refine Zg (rs:=[3]) (by kernel_rfl) (by simp) ?_;refine Zc.cons rfl (fun K hK => ?_) Zc.nil;go_simp;refine (gT _).mono ?_;rintro _ mP ⟨rfl,uT⟩;have lh:=uT.cell lg (fun h=>h);refine hK.out _ _ ?_ ?_
     ·(intro _; exact lh)
     clear hK K
     try simp only [Act.put,List.setIfInBounds_toArray,List.set_cons_zero,List.set_cons_succ]
     refine aa 4 (some 73) ?_;refine Zg (rs:=[5]) (by kernel_rfl) (by simp) ?_;refine Zc.cons rfl (fun K hK => ?_) Zc.nil;go_simp;have ll:(mP.alloc (.cells #[.slice TA told.length tcp,.complex .f64 (fl 1) (fl 0)] 59)).cell? ⟨w6.heap.size,2,none⟩=some (.slice TA told.length tcp):=((Chg.refl (fun _=>False) mP).alloc _).cell lh (fun h=>h);refine hK.out _ _ ?_ ?_
     ·(intro _; exact ll)
     clear hK K
     try simp only [Act.put,List.setIfInBounds_toArray,List.set_cons_zero,List.set_cons_succ]
     refine Zg (rs:=[6]) (by kernel_rfl) (by simp) ?_;refine Zc.cons rfl (fun K hK => ?_) Zc.nil;have zL:=Hd (X3 mP (.slice TA told.length tcp) (.complex .f64 (fl 1) (fl 0)) 59);have fJ:Chg (fun _=>False) w8 mP:=((Chg.refl (fun _=>False) w8).drew).trans uT fun _ _ h=>h;have pg:=Hd (dP.out.o.chg (fJ.alloc (.cells #[.slice TA told.length tcp,.complex .f64 (fl 1) (fl 0)] 59)) fun _ _ h=>h);refine Q8 rfl _ _ 44 44 rfl 59 2 40 Vz cu _ (L+1) ca 1 (ZM (ps++[(.slice YA (ax k).length yc,⟨ax k,0,1⟩)])) [.slice TA told.length tcp,.complex .f64 (fl 1) (fl 0)] _ rfl rfl pg.out (X2.slice zL.out) (by simp [Value.oneCell']) ((L+1)+1) rfl ?_ ?_ ?_
     ·have:=dP.out.len; have:=dP.out.few; omega
     ·have:=dP.out.len; have:=dP.out.few; omega
     intro uU Bb cb vb jN pq eY;have zM:=Hd jN;clear jN;have pz:∀ b,cu=some b->b≠w6.heap.size:=fun b hb=>(HAS.out.2 b hb)
     have pE:=eY.cell ll (fun h=>pz _ h rfl);go_simp;refine hK.out _ _ ?_ ?_
     ·(intro _; exact pE)
     clear hK K
     try simp only [Act.put,List.setIfInBounds_toArray,List.set_cons_zero,List.set_cons_succ]
     refine aa 7 (some 9) ?_;refine Zr (by kernel_rfl) ?_ _
     have htl:told=tl k:=by
      rw [jL.out];have:(nw k).isEmpty=false:=by simpa using HH.out.2
      rw [this]; rfl
     have kW:told.length<=1000000:=by
      have h1:=(bK.out.r q HQ.out.1).2;rw [<- HQ.out.2.1] at h1;have:=Xd (h1 HH.out.2);rw [htl];omega
     have dQ:=fJ.size;have uR:=Hd (dP.out.push (x:=⟨told,1,0⟩) (fJ.alloc (.cells #[.slice TA told.length tcp,.complex .f64 (fl 1) (fl 0)] 59)) zM.out pq (Nat.le_trans (show w4.heap.size<=mP.heap.size by have:=dP.out.o; have:=gX.out.size; have:=gZ.out.size; omega) ((Chg.refl (fun _=>False) mP).alloc _).size) eY ⟨((kR.out.mono fun b hb _=>hb.1).chg gZ.out fun b hb _ h=>hb.2 h).Zf (fJ.alloc _),(show 1<=1125899906842624 by decide),Nat.zero_le _,kW⟩ (by rw [List.length_append,List.length_singleton]; have:=gV.out; omega));have o7:Chg (fun b=>cu=some b) w8 vb:=((fJ.alloc _).mono fun _ _ h=>h.elim).trans eY fun _ _ h=>h;have jd:=Hd o7;clear fJ uT zM pq eY zL pg pz pE lg lh ll o7 dQ gY oV
     go_wp2_with fail
     go_roundw
     case rel =>
      have hmb:mb≠rb/\mb≠bb:=⟨by have:=HM.out.lt; have:=aP.out.size; omega,mJ.out⟩
      obtain ⟨hq,hkq,hlk,aO⟩:=HQ.out;refine ⟨_,cnt2,uU,Bb,(L+1)+1,cb,((ps++[(.slice YA (ax k).length yc,⟨ax k,0,1⟩)])++[(.slice TA told.length tcp,⟨told,1,0⟩)]),dn++[k],_,rfl,Hd ((HIS.out.chg gZ.out (fun e=>hmb.2 e.symm) fun e=>hmb.1 e.symm).chg jd.out (fun e=>(HAS.out.1 _ e).2.2 rfl) fun e=>(HAS.out.1 _ e).2.1 rfl),Hd (uN.out.chg jd.out fun e=>(HAS.out.1 _ e).1 rfl),Hd ?_,Hd (fD.out.step (by rw [aO]; exact fun h=>by cases h) hlk (fun x hx=>QF _ _ hx) ((Z7 _ _ _).trans ?_)),((gX.out.trans gZ.out fun _ _ h=>h).mono (T':=fun i=>i=mb\/w4.heap.size<=i) (fun i hi h => .inl h) |>.trans jd.out fun i hi e => .inr (oM.out.n _ e)).mono fun i hi h=>by omega⟩
      ·have e1:(dn++[k]).flatMap (Q7 old nw ax tl)=(dn.flatMap (Q7 old nw ax tl)++[⟨ax k,0,1⟩])++[⟨told,1,0⟩]:=by
        rw [List.flatMap_append,htl];simp [Q7,HH.out.1,HH.out.2]
       rw [e1];exact uR.out
      ·have:(nw k).isEmpty=false:=by simpa using HH.out.2
       rw [this,aO];rfl
     case measure =>
      have hmb:mb≠rb/\mb≠bb:=⟨by have:=HM.out.lt; have:=aP.out.size; omega,mJ.out⟩
      rw [aG.out.2,((HIS.out.chg gZ.out (fun e=>hmb.2 e.symm) fun e=>hmb.1 e.symm).chg jd.out (fun e=>(HAS.out.1 _ e).2.2 rfl) fun e=>(HAS.out.1 _ e).2.1 rfl).left_eq];exact aG.out.1
end
section
open Go.RowKit
abbrev ZS:=List (List Vl×Int)
def Qf (ks:List Nat) (I:ZS) (k:List UInt8):ZS:=I.filter fun p=>decide (nmR ks p.1=k)
def Xv (f:ByteArray×Nat) (l:List Itm):Vl :=
 if f.1=WQ then ⟨1,Zq l,[]⟩ else if f.1=MW then ⟨1,Qy f.2 l,[]⟩ else if f.1=TZ then bst Vl.less (Qr f.2 l) else bst Vl.more (Qr f.2 l)
def Qo (ks:List Nat) (fs:List (ByteArray×Nat)) (I:ZS) (k:List UInt8):List Vl:=match Qf ks I k with
 | []=>[]
 | p::l=>QS ks p.1++fs.map fun f=>Xv f (Zl (p::l))
def Zfu (r:List Vl):Prop:=∀ v∈r,VN v
structure FIn (ks:List Nat) (fs:List (ByteArray×Nat)) (I:ZS):Prop where
 sm:Sm I
 pos:∀ p∈I,0<p.2
 rn:∀ p∈I,Zfu p.1
 su:∀ p∈I,T2 ks fs p.1
 few:Zq (Zl I)<=40
 big:∀ p∈I,∀ v∈p.1,-1000<=v.n/\v.n<=1000
theorem Z2 {ks:List Nat} {I:ZS} {k:List UInt8} {p:List Vl×Int}:p∈Qf ks I k↔p∈I/\nmR ks p.1=k:=by
 unfold Qf;rw [List.mem_filter,decide_eq_true_iff]
theorem ZP.filter {I:ZS} (h:ZP I) (f:List Vl×Int->Bool):ZP (I.filter f) where
 row:=fun p hp=>h.row p ((List.mem_filter.1 hp).1)
 net:=fun p hp=>h.net p ((List.mem_filter.1 hp).1)
 ord:=h.ord.filter f
theorem Pc (f:List Vl×Int->Bool):∀ I:ZS,ZW (Zl (I.filter f))<=ZW (Zl I)
 | []=>Nat.le_refl _
 | p::I=>by
  have ih:=Pc f I;rw [List.filter_cons];split
  ·simp only [Zl,List.map_cons,ZW] at ih ⊢;omega
  ·simp only [Zl,List.map_cons,ZW] at ih ⊢;omega
theorem Sm.filter {I:ZS} (h:Sm I) (f:List Vl×Int->Bool):Sm (I.filter f) :=
 ⟨h.set.filter f,Nat.le_trans (List.length_filter_le _ _) h.few,Nat.le_trans (Pc f I) h.sum⟩
theorem Wo (p:List Vl×Int):(ZA p).net=p.2:=by
 simp only [ZA,Itm.net];omega
theorem YQ (f:List Vl×Int->Bool):∀ {I:ZS},(∀ p∈I,0<p.2)->Zq (Zl (I.filter f))<=Zq (Zl I)
 | [],_=>Int.le_refl _
 | p::I,h=>by
  have ih:=YQ f fun q hq=>h q (List.mem_cons_of_mem _ hq);have hp:=h p List.mem_cons_self;have hn:=Wo p;rw [List.filter_cons];split
  ·simp only [Zl,List.map_cons,Zq] at ih ⊢;omega
  ·simp only [Zl,List.map_cons,Zq] at ih ⊢;omega
theorem L9 (f:List Vl×Int->Bool) (g:List Vl->Bool) (hfg:∀ p,f p=g p.1) (r:List Vl):∀ I:ZS,nf (I.filter f) r=if g r then nf I r else 0
 | []=>by simp [nf]
 | p::I=>by
  have ih:=L9 f g hfg r I;rw [List.filter_cons,hfg];by_cases hpr:p.1=r
  ·subst hpr;cases hg:g p.1
   ·rw [hg] at ih;simp only [Bool.false_eq_true,if_false] at ih ⊢;exact ih
   ·rw [hg] at ih;simp only [if_true] at ih ⊢;rw [nf,nf,ih]
  ·cases hg:g p.1
   ·simp only [Bool.false_eq_true,if_false];rw [ih,nf,if_neg hpr];simp
   ·simp only [if_true];rw [nf,nf,if_neg hpr,ih];simp
theorem Yl (ks:List Nat) (I:ZS) (k:List UInt8) (r:List Vl):nf (Qf ks I k) r=if nmR ks r=k then nf I r else 0:=by
 have h:=L9 (fun p=>decide (nmR ks p.1=k)) (fun r=>decide (nmR ks r=k)) (fun _=>rfl) r I;unfold Qf;rw [h];simp
section
variable {ks:List Nat} {fs:List (ByteArray×Nat)} {I:ZS} (h:FIn ks fs I)
include h
theorem FIn.Tg (k:List UInt8):Sm (Qf ks I k):=h.sm.filter _
theorem FIn.Fb (k:List UInt8):Few (Qf ks I k) :=
 ⟨(h.Tg k).few,fun p hp=>Int.le_of_lt (h.pos p (Z2.1 hp).1),Int.le_trans (YQ _ h.pos) h.few⟩
theorem FIn.key {p q:List Vl×Int} (hp:p∈I) (hq:q∈I) (e:nmR ks p.1=nmR ks q.1):QS ks p.1=QS ks q.1 :=
 Mw (by simp [QS]) (fun v hv=>h.rn p hp v (Kv (h.su p hp).2.1 hv)) (fun v hv=>h.rn q hq v (Kv (h.su q hq).2.1 hv)) e
theorem FIn.tell {p:List Vl×Int} (hp:p∈I):Qo ks fs I (nmR ks p.1)=QS ks p.1++fs.map fun f=>Xv f (Zl (Qf ks I (nmR ks p.1))):=by
 unfold Qo;split
 ·rename_i e;have:p∈Qf ks I (nmR ks p.1):=Z2.2 ⟨hp,rfl⟩;rw [e] at this;cases this
 ·rename_i q l e;have hq:=Z2.1 (by rw [e]; exact List.mem_cons_self:q∈Qf ks I (nmR ks p.1));rw [h.key hq.1 hp hq.2,e]
end
theorem Ha (c:Nat):∀ {S:ZS},(∀ p∈S,0<=p.2)->(∀ p∈S,∀ v∈p.1,-1000<=v.n/\v.n<=1000) -> -1000*Zq (Zl S)<=Qy c (Zl S)/\Qy c (Zl S)<=1000*Zq (Zl S)
 | [],_,_=>by simp [Zl,Zq,Qy]
 | p::S,h,hb=>by
  have ih:=Ha c (S:=S) (fun q hq=>h q (List.mem_cons_of_mem _ hq)) fun q hq=>hb q (List.mem_cons_of_mem _ hq);have hp:=h p List.mem_cons_self
  have hv : -1000<=(p.1[c]?.getD ⟨0,0,[]⟩).n/\(p.1[c]?.getD ⟨0,0,[]⟩).n<=1000:=by
   cases hc:p.1[c]? with
   | none=>simp
   | some v=>exact hb p List.mem_cons_self v (List.mem_of_getElem? hc)
  have h1:=Int.mul_le_mul_of_nonneg_left hv.1 hp;have h2:=Int.mul_le_mul_of_nonneg_left hv.2 hp;have hn:=Wo p;show -1000*((ZA p).net+Zq (Zl S))<=(ZA p).net*((ZA p).row[c]?.getD ⟨0,0,[]⟩).n+Qy c (Zl S)/\(ZA p).net*((ZA p).row[c]?.getD ⟨0,0,[]⟩).n+Qy c (Zl S)<=1000*((ZA p).net+Zq (Zl S));rw [hn];have e:(ZA p).row=p.1:=rfl;rw [e];omega
theorem Hb (S:ZS) (n:Nat):(Zl S).take n=Zl (S.take n):=by simp [Zl]
theorem T4 {S:ZS} {x:Itm} (h:x∈Zl S):∃ p∈S,x.row=p.1:=by
 obtain ⟨p,hp,rfl⟩:=List.mem_map.1 h;exact ⟨p,hp,rfl⟩
theorem Za1 {f:ByteArray×Nat} {S:ZS} (hne:S≠[]) (hF:Few S) (hg:∀ p∈S,GOk p.1 f) (hr:∀ p∈S,Zk p.1=true) (hb:∀ p∈S,∀ v∈p.1,-1000<=v.n/\v.n<=1000) {F:Nat->Prop} {W:World} {lv:Value} (h:Zo F W lv (Zl S)) :
  Calls prog 490 #[.agg #[.string f.1,.int .i64 (f.2:Int)],lv] W fun e W'=>e = .returned (.tuple #[(Xv f (Zl S)).val,.bool true])/\Chg (fun _=>False) W W':=by
 obtain ⟨nm,c⟩:=f;obtain ⟨p,hp⟩:=List.exists_mem_of_ne_nil _ hne;have hlen:(Zl S).length<=4096:=by rw [Zu]; have:=hF.1; omega
 have hsum:∀ n,Zq ((Zl S).take n)<=40/\0<=Zq ((Zl S).take n):=fun n=>by
  have h1:=R8 hF.net n;have h2:=hF.2.2;exact ⟨by omega,h1.1⟩
 have hgp:=hg p hp
 have hlong:∀ x∈Zl S,∀ v∈x.row,v.s.length<=9223372036854775807:=fun x hx v hv=>by
  obtain ⟨q,hq,e⟩:=T4 hx;rw [e] at hv;have:=WR (QY (hr q hq) v hv);omega
 by_cases h1:nm=WQ
 ·subst h1;have e:Xv (WQ,c) (Zl S)=⟨1,Zq (Zl S),[]⟩:=if_pos rfl;rw [e];exact D2 (c:Int) h hlen fun n _=>by have:=hsum n; omega
 ·by_cases h2:nm=MW
  ·subst h2;have e:Xv (MW,c) (Zl S)=⟨1,Qy c (Zl S),[]⟩:=by unfold Xv; rw [if_neg h1,if_pos rfl]
   rw [e];refine ZaY h hlen (fun x hx => ?_) fun n _ => ?_
   ·obtain ⟨q,hq,e⟩:=T4 hx;rcases hg q hq with h3 | ⟨_,v,hv,_⟩ | ⟨h3 | h3,_⟩
    ·exact absurd h3 h1
    ·rw [e];have:=hb q hq v (List.mem_of_getElem? hv);exact ⟨v,hv,by omega,by omega⟩
    ·exact absurd (show MW=TZ from h3) (by decide)
    ·exact absurd (show MW=S9 from h3) (by decide)
   ·rw [Hb];have h3:=Ha c (S:=S.take n) (fun q hq=>hF.2.1 q (List.mem_of_mem_take hq)) fun q hq=>hb q (List.mem_of_mem_take hq);have h4:=hsum n;rw [Hb] at h4;show -1000000<=Qy c (Zl (S.take n))/\Qy c (Zl (S.take n))<=1000000;omega
  ·have dV:c<p.1.length/\(nm=TZ\/nm=S9):=by
    rcases hgp with h3 | ⟨h3,_⟩ | ⟨h3,h4⟩
    ·exact absurd h3 h1
    ·exact absurd h3 h2
    ·exact ⟨h4,h3⟩
   have hrow:∀ x∈Zl S,c<x.row.length:=fun x hx=>by
    obtain ⟨q,hq,e⟩:=T4 hx;rw [e];rcases hg q hq with h3 | ⟨h3,_⟩ | ⟨h3,h4⟩
    ·exact absurd h3 h1
    ·exact absurd h3 h2
    ·exact h4
   by_cases h3:nm=TZ
   ·subst h3;have e:Xv (TZ,c) (Zl S)=bst Vl.less (Qr c (Zl S)):=by unfold Xv; rw [if_neg h1,if_neg h2,if_pos rfl]
    rw [e];exact ZaW h hlen hrow hlong
   ·have h4:nm=S9:=by
     rcases dV.2 with h | h
     ·exact absurd h h3
     ·exact h
    subst h4;have e:Xv (S9,c) (Zl S)=bst Vl.more (Qr c (Zl S)):=by unfold Xv; rw [if_neg h1,if_neg h2,if_neg h3]
    rw [e];exact ZaX h hlen hrow hlong
theorem EC {lt:Vl->Vl->Bool}:∀ {l:List Vl},l≠[]->bst lt l∈l
 | [],h=>absurd rfl h
 | x::l,_=>by
  show (l.foldl (fun b v=>if lt v b then v else b) x)∈x::l
  have key:∀ (l:List Vl) (b:Vl),(l.foldl (fun b v=>if lt v b then v else b) b)∈b::l:=by
   intro l
   induction l with
   | nil=>intro b; exact List.mem_cons_self
   | cons y l ih =>
    intro b;rw [List.foldl_cons];by_cases hc:lt y b=true
    ·rw [if_pos hc];rcases List.mem_cons.1 (ih y) with h2 | h2
     ·rw [h2]; exact List.mem_cons_of_mem _ List.mem_cons_self
     ·exact List.mem_cons_of_mem _ (List.mem_cons_of_mem _ h2)
    ·rw [if_neg hc];rcases List.mem_cons.1 (ih b) with h2 | h2
     ·rw [h2]; exact List.mem_cons_self
     ·exact List.mem_cons_of_mem _ (List.mem_cons_of_mem _ h2)
  exact key l x
theorem M4 {f:ByteArray×Nat} {S:ZS} (hne:S≠[]) (hg:∀ p∈S,GOk p.1 f) (hr:∀ p∈S,Zk p.1=true):(Xv f (Zl S)).right=true:=by
 obtain ⟨nm,c⟩:=f;unfold Xv;split
 ·rfl
 ·split
  ·rfl
  ·rename_i h1 h2
   have dV:∀ p∈S,c<p.1.length:=fun p hp=>by
    rcases hg p hp with h3 | ⟨h3,_⟩ | ⟨h3,h4⟩
    ·exact absurd h3 h1
    ·exact absurd h3 h2
    ·exact h4
   have hc:∀ v∈Qr c (Zl S),v.right=true:=fun v hv=>by
    obtain ⟨x,hx,rfl⟩:=List.mem_map.1 hv;obtain ⟨q,hq,e⟩:=T4 hx;rw [e,List.getElem?_eq_getElem (dV q hq)];exact QY (hr q hq) _ (List.getElem_mem _)
   have hn:Qr c (Zl S)≠[]:=fun e=>hne (by rw [R7] at e; simpa [Zl] using e);split
   ·exact hc _ (EC hn)
   ·exact hc _ (EC hn)
end
section
open Go.RowKit
structure Wp (ks:List Nat) (fs:List (ByteArray×Nat)) (I:ZS) (F:Nat->Prop) (w:World) (f:List UInt8->Option Value):Prop where
 to:∀ k v,f k=some v->∃ p∈I,k=nmR ks p.1/\Jd w F v (QS ks p.1) (Qf ks I k) (Qo ks fs I k)
 of:∀ p∈I,f (nmR ks p.1)≠none
theorem Jd.move {w w':World} {G:Nat->Prop} {v:Value} {key:List Vl} {S:List (List Vl×Int)} {told:List Vl} (h:Jd w G v key S told) (hs:w.heap.size<=w'.heap.size) (hb:∀ k,G k->k<w.heap.size->w'.heap[k]? = w.heap[k]?):Jd w' G v key S told:=by
 obtain ⟨kv,iv,tv,e,h1,h2,h3⟩:=h.ex;exact ⟨kv,iv,tv,e,h1.move hs hb,h2.move hs hb,h3.move hs hb⟩
theorem Wp.move {ks:List Nat} {fs:List (ByteArray×Nat)} {I:ZS} {F:Nat->Prop} {w w':World} {f:List UInt8->Option Value} (h:Wp ks fs I F w f) (hs:w.heap.size<=w'.heap.size) (hb:∀ k,F k->k<w.heap.size->w'.heap[k]? = w.heap[k]?):Wp ks fs I F w' f :=
 ⟨fun k v hv=>by
  obtain ⟨p,hp,e,h1⟩:=h.to k v hv
  exact ⟨p,hp,e,h1.move hs hb⟩,h.of⟩
theorem Wp.mono {ks:List Nat} {fs:List (ByteArray×Nat)} {I:ZS} {F G:Nat->Prop} {w:World} {f:List UInt8->Option Value} (h:Wp ks fs I F w f) (hn:∀ b,F b->b<w.heap.size->G b):Wp ks fs I G w f :=
 ⟨fun k v hv=>by
  obtain ⟨p,hp,e,h1⟩:=h.to k v hv
  exact ⟨p,hp,e,h1.mono hn⟩,h.of⟩
def Wq (ks:List Nat) (fs:List (ByteArray×Nat)) (I:ZS) (F:Nat->Prop) (w:World) (o:Obj):Prop:=∃ es clock f,o = .map es clock/\Wa es clock f/\Wp ks fs I F w f
theorem Wq.empty (ks:List Nat) (fs:List (ByteArray×Nat)) (F:Nat->Prop) (w:World) (c:Nat):Wq ks fs [] F w (.map #[] c) :=
 ⟨#[],c,fun _=>none,rfl,Wa.empty c,fun k v h=>(by cases h),fun p h=>(by cases h)⟩
structure T5 (ks:List Nat) (fs:List (ByteArray×Nat)) (I D I' O:ZS):Prop where
 i:FIn ks fs I
 i':FIn ks fs I'
 n0:0<ks.length+fs.length
 n6:ks.length+fs.length<=6
 d:Sm D
 dn:∀ p∈D,Zfu p.1
 ds:∀ p∈D,T2 ks fs p.1
 nd:(D.map fun p=>nmR ks p.1).Nodup
 ad:∀ r,nf I' r=nf I r+nf D r
 KS:∃ KS:List (List UInt8),(∀ p∈I,nmR ks p.1∈KS)/\KS.length+D.length<=12
 o:Sm O
 on:∀ r,nf O r=Qv ((D.map fun p=>nmR ks p.1).flatMap (Q7 (Qf ks I) (Qf ks I') (Qo ks fs I) (Qo ks fs I'))) r
section
variable {ks:List Nat} {fs:List (ByteArray×Nat)} {I D I' O:ZS} (h:T5 ks fs I D I' O)
include h
theorem T5.one {p:List Vl×Int} (hp:p∈D) (r:List Vl):nf D r=nf [p] r\/nmR ks r≠nmR ks p.1:=by
 by_cases hr:nmR ks r=nmR ks p.1
 ·refine .inl ?_
  have key:∀ {E:ZS},(E.map fun p=>nmR ks p.1).Nodup->p∈E->nf E r=nf [p] r:=by
   intro E
   induction E with
   | nil=>intro _ h; cases h
   | cons q E ih =>
    intro hn hm;obtain ⟨h1,h2⟩:=List.nodup_cons.1 (show (nmR ks q.1::E.map fun p=>nmR ks p.1).Nodup from hn);rcases List.mem_cons.1 hm with rfl | hm
    ·have:nf E r=0:=T6 fun x hx e=>h1 (List.mem_map.2 ⟨x,hx,by rw [e]; exact hr⟩);rw [nf,nf,this];rfl
    ·have hne:q.1≠r:=fun e=>h1 (List.mem_map.2 ⟨p,hm,by rw [e]; exact hr.symm⟩);rw [nf,if_neg hne,ih h2 hm];omega
  exact key h.nd hp
 ·exact .inr hr
theorem T5.grp {p:List Vl×Int} (hp:p∈D) (r:List Vl):nf (Qf ks I' (nmR ks p.1)) r=nf (Qf ks I (nmR ks p.1)) r+nf [p] r:=by
 rw [Yl,Yl];rcases h.one hp r with e | e
 ·by_cases hr:nmR ks r=nmR ks p.1
  ·rw [if_pos hr,if_pos hr,h.ad,e]
  ·rw [if_neg hr,if_neg hr,nf,if_neg fun e=>hr (by rw [e])];rfl
 ·rw [if_neg e,if_neg e,nf,if_neg fun e2=>e (by rw [e2])];rfl
theorem T5.same {k:List UInt8} (hk:∀ p∈D,k≠nmR ks p.1):Qf ks I' k=Qf ks I k:=by
 refine ZP.uniq (h.i'.Tg k).set (h.i.Tg k).set fun r => ?_;rw [Yl,Yl];by_cases hr:nmR ks r=k
 ·have:nf D r=0:=T6 fun x hx e=>hk x hx (by rw [e,hr]);rw [if_pos hr,if_pos hr,h.ad,this];omega
 ·rw [if_neg hr,if_neg hr]
omit h in
theorem T5.old {p:List Vl×Int} {w:World} {G:Nat->Prop} {f:List UInt8->Option Value} (hF:Wp ks fs I G w f) (hp:p∈D) :
  ∃ x va y key,(f (nmR ks p.1)).getD Zfr = .agg #[x,va,y]/\Zj G w x key/\Zo G w va (Zl (Qf ks I (nmR ks p.1)))/\Zj G w y (Qo ks fs I (nmR ks p.1)):=by
 cases hf:f (nmR ks p.1) with
 | none =>
  have e:Qf ks I (nmR ks p.1)=[]:=by
   refine List.eq_nil_iff_forall_not_mem.2 fun q hq => ?_;obtain ⟨h1,h2⟩:=Z2.1 hq;exact hF.of q h1 (by rw [h2]; exact hf)
  refine ⟨_,_,_,[],rfl,Zj.Xz _ _,?_,?_⟩
  ·rw [e]; exact Zo.Xz _ _
  ·unfold Qo; rw [e]; exact Zj.Xz _ _
 | some v =>
  obtain ⟨q,hq,e,hg⟩:=hF.to _ v hf;obtain ⟨kv,iv,tv,rfl,h1,h2,h3⟩:=hg.ex;exact ⟨kv,iv,tv,_,rfl,h1,h2,h3⟩
theorem T5.ZhZ {p q:List Vl×Int} (hp:p∈D) (hq:q∈I') (e:nmR ks q.1=nmR ks p.1):QS ks q.1=QS ks p.1 :=
 Mw (by simp [QS]) (fun v hv=>h.i'.rn q hq v (Kv (h.i'.su q hq).2.1 hv)) (fun v hv=>h.dn p hp v (Kv (h.ds p hp).2.1 hv)) e
theorem VC {J:ZS} (hJ:FIn ks fs J) {k:List UInt8} (hne:Qf ks J k≠[]):Zk (Qo ks fs J k)=true:=by
 obtain ⟨q,hq⟩:=List.exists_mem_of_ne_nil _ hne;obtain ⟨h1,h2⟩:=Z2.1 hq;subst h2;rw [hJ.tell h1];have hl:(QS ks q.1++fs.map fun f=>Xv f (Zl (Qf ks J (nmR ks q.1)))).length=ks.length+fs.length:=by simp [QS]
 have hr:∀ v∈QS ks q.1++fs.map (fun f=>Xv f (Zl (Qf ks J (nmR ks q.1)))),v.right=true:=fun v hv=>by
  rcases List.mem_append.1 hv with hv | hv
  ·exact QY (hJ.su q h1).2.2 v (Kv (hJ.su q h1).2.1 hv)
  ·obtain ⟨f,hf,rfl⟩:=List.mem_map.1 hv;exact M4 hne (fun x hx=>(hJ.su x (Z2.1 hx).1).1 f hf) fun x hx=>(hJ.su x (Z2.1 hx).1).2.2
 unfold Zk;rw [hl];have h0:=h.n0;have h6:=h.n6
 have:(QS ks q.1++fs.map fun f=>Xv f (Zl (Qf ks J (nmR ks q.1)))).any (fun x => !x.right)=false:=by
  rw [List.any_eq_false];intro v hv;rw [hr v hv]
  decide
 rw [this];simp;omega
theorem T5.ZlA {w:World} {G:Nat->Prop} {f:List UInt8->Option Value} (hF:Wp ks fs I G w f):Zka w G ks fs f D (Qf ks I) (Qf ks I') (Qo ks fs I) (Qo ks fs I') where
 o:=fun p hp=>T5.old hF hp
 l:=fun p hp=>by
  unfold nmR nameOf;rw [List.length_append,ZH];have hk:(QS ks p.1).length<=6:=by have:=h.n6; simp only [QS,List.length_map]; omega
  have h1:∀ {r:List Vl},(∀ v∈r,v.s.length<=40)->(r.flatMap KP).length<=r.length*50:=by
   intro r
   induction r with
   | nil=>intro _; simp
   | cons v r ih =>
    intro hr;rw [List.flatMap_cons,List.length_append,List.length_cons];have h2:=ih fun u hu=>hr u (List.mem_cons_of_mem _ hu);have h3:=hr v List.mem_cons_self
    have h4:(KP v).length<=50:=by
     unfold KP;rw [List.length_append,ZH];split
     ·rw [ZH]; omega
     ·rw [List.length_append,ZH]; omega
    omega
  have h2:=h1 fun v hv=>WR (QY (h.ds p hp).2.2 v (Kv (h.ds p hp).2.1 hv));omega
 t:=fun p hp hn=>by
  obtain ⟨q,hq⟩:=List.exists_mem_of_ne_nil _ hn;obtain ⟨q1,q2⟩:=Z2.1 hq;refine ⟨fun j=>(fs[j]?.map fun f=>Xv f (Zl (Qf ks I' (nmR ks p.1)))).getD ⟨0,0,[]⟩,fun j => ?_,?_,fun j f hj F W lv hlv => ?_⟩
  ·show ((fs[j]?.map fun f=>Xv f (Zl (Qf ks I' (nmR ks p.1)))).getD ⟨0,0,[]⟩).s.length<=_;cases hj:fs[j]? with
   | none=>exact Nat.zero_le _
   | some f =>
    have:=WR (M4 hn (fun x hx=>(h.i'.su x (Z2.1 hx).1).1 f (List.mem_of_getElem? hj)) fun x hx=>(h.i'.su x (Z2.1 hx).1).2.2);show (Xv f (Zl (Qf ks I' (nmR ks p.1)))).s.length<=_;omega
  ·rw [<- q2,h.i'.tell q1,h.ZhZ hp q1 q2]
   congr 1
   refine List.ext_getElem? fun j => ?_;rw [List.getElem?_map,List.getElem?_map];by_cases hj:j<fs.length
   ·rw [List.getElem?_range hj,List.getElem?_eq_getElem hj];simp [hj]
   ·rw [List.getElem?_eq_none (by omega),List.getElem?_eq_none (by simp; omega)];rfl
  ·have e:(fs[j]?.map fun f=>Xv f (Zl (Qf ks I' (nmR ks p.1)))).getD ⟨0,0,[]⟩=Xv f (Zl (Qf ks I' (nmR ks p.1))):=by rw [hj]; rfl
   simp only [e];exact Za1 hn (h.i'.Fb _) (fun x hx=>(h.i'.su x (Z2.1 hx).1).1 f (List.mem_of_getElem? hj)) (fun x hx=>(h.i'.su x (Z2.1 hx).1).2.2) (fun x hx=>h.i'.big x (Z2.1 hx).1) hlv
 z:=fun p hp=>⟨h.i.Tg _,by
  have hz:=h.d;refine ⟨⟨fun q hq => ?_,fun q hq => ?_,List.pairwise_singleton _ _⟩,by simp,?_⟩
  ·rw [List.mem_singleton.1 hq]; exact hz.set.row p hp
  ·rw [List.mem_singleton.1 hq]; exact hz.set.net p hp
  ·have h1:=D8 (List.mem_map_of_mem hp:ZA p∈Zl D);have h2:=hz.sum;show (ZA p).a+(ZA p).b+0<=1000000
   exact Nat.le_trans h1 h2,h.i'.Tg _,h.i'.Fb _,h.grp hp⟩
 ne:=fun p hp=>by
  by_cases h1:Qf ks I (nmR ks p.1)=[]
  ·refine .inr fun h2 => ?_;have h3:=h.grp hp p.1;rw [h1,h2] at h3;have h4:=h.d.set.net p hp;simp only [nf,if_true] at h3;omega
  ·exact .inl h1
 r:=fun p hp=>⟨fun hn=>VC h h.i hn,fun hn=>VC h h.i' hn⟩
theorem T5.few {w:World} {G:Nat->Prop} {f:List UInt8->Option Value} (hF:Wp ks fs I G w f):Lo w G f:=fun k v hv=>by
 obtain ⟨p,hp,e,hg⟩:=hF.to k v hv;exact ⟨_,_,_,hg,h.i.Fb k⟩
theorem T5.left {w w':World} {G F':Nat->Prop} {f fc:List UInt8->Option Value} {dn:List (List UInt8)} (hF:Wp ks fs I G w f) (hdn:∀ k,k∈dn↔∃ p∈D,k=nmR ks p.1) (hkeep:∀ v key S told,Jd w G v key S told->Jd w' F' v key S told)
  (h1:∀ k,k∉dn->fc k=f k) (h2:∀ p∈D,(Qf ks I' (nmR ks p.1)=[]->fc (nmR ks p.1)=none)/\(Qf ks I' (nmR ks p.1)≠[]->∃ v,fc (nmR ks p.1)=some v/\Jd w' F' v (QS ks p.1) (Qf ks I' (nmR ks p.1)) (Qo ks fs I' (nmR ks p.1)))) :
  Wp ks fs I' F' w' fc where
 to:=fun k v hv=>by
  by_cases hk:k∈dn
  ·obtain ⟨p,hp,rfl⟩:=(hdn k).1 hk;obtain ⟨h3,h4⟩:=h2 p hp;by_cases hg:Qf ks I' (nmR ks p.1)=[]
   ·rw [h3 hg] at hv; cases hv
   ·obtain ⟨v',h5,h6⟩:=h4 hg;rw [hv] at h5;injection h5 with h5
    subst h5;obtain ⟨q,hq⟩:=List.exists_mem_of_ne_nil _ hg;obtain ⟨q1,q2⟩:=Z2.1 hq;exact ⟨q,q1,q2.symm,by rw [h.ZhZ hp q1 q2]; exact h6⟩
  ·rw [h1 k hk] at hv;obtain ⟨p,hp,e,hg⟩:=hF.to k v hv;have hs:=h.same (k:=k) fun q hq e2=>hk ((hdn k).2 ⟨q,hq,e2⟩);have hpm:p∈Qf ks I' k:=by rw [hs]; exact Z2.2 ⟨hp,e.symm⟩
   have ht:Qo ks fs I' k=Qo ks fs I k:=by unfold Qo; rw [hs]
   exact ⟨p,(Z2.1 hpm).1,e,by rw [hs,ht]; exact hkeep v _ _ _ hg⟩
 of:=fun p hp=>by
  by_cases hk:nmR ks p.1∈dn
  ·obtain ⟨q,hq,e⟩:=(hdn _).1 hk
   have hg:Qf ks I' (nmR ks q.1)≠[]:=fun e2=>by
    have:=Z2.2 ⟨hp,e⟩;rw [e2] at this;cases this
   obtain ⟨v,h5,_⟩:=(h2 q hq).2 hg;rw [e,h5];exact fun h=>by cases h
  ·rw [h1 _ hk];have hs:=h.same (k:=nmR ks p.1) fun q hq e2=>hk ((hdn _).2 ⟨q,hq,e2⟩);have hpm:p∈Qf ks I (nmR ks p.1):=by rw [<- hs]; exact Z2.2 ⟨hp,rfl⟩
   exact hF.of p (Z2.1 hpm).1
end
end
section
abbrev Zs:=List (List Vl×Int)
def Qi (x:List Vl) (n:Int):Zs->Zs
 | []=>[(x,n)]
 | p::S=>if QB x p.1<0 then (x,n)::p::S else if x=p.1 then (if p.2+n=0 then S else (x,p.2+n)::S) else p::Qi x n S
theorem M5 {x:List Vl} {n:Int}:∀ {S:Zs} {p:List Vl×Int},p∈Qi x n S->p.1=x\/∃ q∈S,q.1=p.1
 | [],p,h=>by rw [Qi,List.mem_singleton] at h; rw [h]; exact .inl rfl
 | q::S,p,h=>by
  rw [Qi] at h;split at h
  ·rcases List.mem_cons.1 h with rfl | h
   ·exact .inl rfl
   ·exact .inr ⟨p,h,rfl⟩
  ·split at h
   ·split at h
    ·exact .inr ⟨p,List.mem_cons_of_mem _ h,rfl⟩
    ·rcases List.mem_cons.1 h with rfl | h
     ·exact .inl rfl
     ·exact .inr ⟨p,List.mem_cons_of_mem _ h,rfl⟩
   ·rcases List.mem_cons.1 h with rfl | h
    ·exact .inr ⟨p,by simp,rfl⟩
    ·rcases M5 h with h1 | ⟨q',h1,h2⟩
     ·exact .inl h1
     ·exact .inr ⟨q',List.mem_cons_of_mem _ h1,h2⟩
theorem Xh (x:List Vl) (n:Int) (r:List Vl):∀ S:Zs,nf (Qi x n S) r=nf S r+if x=r then n else 0
 | []=>by simp [Qi,nf]
 | p::S=>by
  rw [Qi];split
  ·rw [nf,Int.add_comm]
  ·split
   ·rename_i h;split
    ·rw [nf,<- h];split <;> omega
    ·rw [nf,nf,<- h];simp only;split <;> omega
   ·rw [nf,nf,Xh x n r S];omega
theorem M6 (x:List Vl) (n:Int):∀ S:Zs,(Qi x n S).length<=S.length+1
 | []=>by simp [Qi]
 | p::S=>by
  rw [Qi];split
  ·simp
  ·split
   ·split <;> simp <;> omega
   ·have:=M6 x n S;simp only [List.length_cons];omega
theorem JW (p:List Vl×Int) (S:Zs):ZW (Zl (p::S))=p.2.natAbs+ZW (Zl S):=by
 show ZW (ZA p::Zl S)=_;rw [ZW];unfold ZA;simp only;omega
theorem Sc (x:List Vl) (n:Int):∀ S:Zs,ZW (Zl (Qi x n S))<=ZW (Zl S)+n.natAbs
 | []=>by rw [Qi,JW]; simp [Zl,ZW]
 | p::S=>by
  rw [Qi];split
  ·rw [JW]; omega
  ·split
   ·split
    ·rw [JW]; omega
    ·rw [JW,JW];simp only;omega
   ·have:=Sc x n S;rw [JW,JW];omega
theorem PZ {x:List Vl} {n:Int} (hx:Zk x=true) (hn:n≠0):∀ {S:Zs},ZP S->ZP (Qi x n S)
 | [],_=>⟨fun p hp=>by rw [Qi,List.mem_singleton] at hp; rw [hp]; exact hx,fun p hp=>by rw [Qi,List.mem_singleton] at hp; rw [hp]; exact hn,by rw [Qi]; exact List.pairwise_singleton _ _⟩
 | p::S,h=>by
  have hp:=h.row p (by simp);have hpv:=ZZ hp;have hxv:=ZZ hx;have je:=List.pairwise_cons.1 h.ord;rw [Qi];split
  ·rename_i h1;refine ⟨fun q hq => ?_,fun q hq => ?_,List.pairwise_cons.2 ⟨fun q hq => ?_,h.ord⟩⟩
   ·rcases List.mem_cons.1 hq with rfl | hq
    ·exact hx
    ·exact h.row q hq
   ·rcases List.mem_cons.1 hq with rfl | hq
    ·exact hn
    ·exact h.net q hq
   ·rcases List.mem_cons.1 hq with rfl | hq
    ·exact h1
    ·exact Kq hxv hpv (ZZ (h.row q (List.mem_cons_of_mem _ hq))) h1 (je.1 q hq)
  ·rename_i h1;split
   ·rename_i h2;split
    ·exact h.tail
    ·rename_i h3;refine ⟨fun q hq => ?_,fun q hq => ?_,List.pairwise_cons.2 ⟨fun q hq => ?_,je.2⟩⟩
     ·rcases List.mem_cons.1 hq with rfl | hq
      ·exact hx
      ·exact h.row q (List.mem_cons_of_mem _ hq)
     ·rcases List.mem_cons.1 hq with rfl | hq
      ·exact h3
      ·exact h.net q (List.mem_cons_of_mem _ hq)
     ·rw [h2]; exact je.1 q hq
   ·rename_i h2;have ih:=PZ hx hn h.tail;refine ⟨fun q hq => ?_,fun q hq => ?_,List.pairwise_cons.2 ⟨fun q hq => ?_,ih.ord⟩⟩
    ·rcases List.mem_cons.1 hq with rfl | hq
     ·exact hp
     ·exact ih.row q hq
    ·rcases List.mem_cons.1 hq with rfl | hq
     ·exact h.net q (by simp)
     ·exact ih.net q hq
    ·rcases M5 hq with h3 | ⟨q',h3,h4⟩
     ·rw [h3];have h5:QB x p.1≠0:=fun e=>h2 ((QX hxv hpv).1 e);rw [RW hpv hxv];omega
     ·rw [<- h4];exact je.1 q' h3
structure Bd (k:Nat) (S:Zs):Prop where
 set:ZP S
 len:S.length<=k
 sum:ZW (Zl S)<=k
theorem Bd.sm {k:Nat} {S:Zs} (h:Bd k S) (hk:k<=1000):Sm S:=⟨h.set,by have:=h.len; omega,by have:=h.sum; omega⟩
theorem Bd.nil:Bd 0 []:=⟨ZP.nil,by simp,by simp [Zl,ZW]⟩
theorem Bd.mono {k m:Nat} {S:Zs} (h:Bd k S) (hk:k<=m):Bd m S:=⟨h.set,by have:=h.len; omega,by have:=h.sum; omega⟩
theorem Bd.Qi {k:Nat} {S:Zs} (h:Bd k S) {x:List Vl} {n:Int} (hx:Zk x=true) (hn:n=1\/n = -1):Bd (k+1) (Qi x n S) :=
 ⟨PZ hx (by omega) h.set,by have:=M6 x n S; have:=h.len; omega,by have:=Sc x n S; have:=h.sum; omega⟩
theorem Uf {S:Zs} (h:∀ p∈S,0<=p.2) (r:List Vl):0<=nf S r:=by
 induction S with
 | nil=>exact Int.le_refl _
 | cons p S ih =>
  rw [nf];have h1:=h p (by simp);have h2:=ih fun q hq=>h q (by simp [hq]);split <;> omega
theorem Zh3 {S:Zs} (h:ZP S) (hp:∀ r,0<=nf S r):∀ p∈S,0<=p.2:=fun p h1=>by
 have:=hp p.1;rw [h.Fc h1] at this;exact this
theorem Zc4 {S:Zs} (h:ZP S) (hp:∀ p∈S,0<=p.2) {x:List Vl} {n:Int} (hx:Zk x=true) (hn:n≠0) (h0:0<=nf S x+n):∀ p∈Qi x n S,0<=p.2 :=
 Zh3 (PZ hx hn h) fun r=>by
  rw [Xh];have:=Uf hp r;split
  ·rename_i e; subst e; exact h0
  ·omega
theorem Hc {x:List Vl} {n:Int} (hx:Zk x=true) (hn:n=1\/n = -1):Bd 1 [(x,n)]:=Bd.Qi (S:=[]) Bd.nil hx hn
theorem Sd (x:List Vl) (n:Int) (r:List Vl):nf [(x,n)] r=if x=r then n else 0:=by simp [nf]
end
end Go.Proofs.YtheflbaejhlboaaGreatDoor
