/- Lemmas for a law of confluencetop. -/
import Derived.Test.YtheflbaejhlboaaGreatDoorTopNe12
set_option linter.all false
set_option maxHeartbeats 16000000
set_option maxRecDepth 20000
namespace Go.Proofs.YtheflbaejhlboaaGreatDoor
open Tryz
section
open Go.RowKit
structure MOk (w:World) (G:Nat->Prop) (fs:List (ByteArray×Nat)) (f g:List UInt8->Option Value) (au:List UInt8->List Vl) (old dl nw:List UInt8->List (List Vl×Int)) (tl:List UInt8->List Vl):Prop where
 o:∀ k,g k≠none->∃ x va y,(f k).getD ZfP = .agg #[x,va,y]/\Zp G w va (Zj (old k))
 n:∀ k v,g k=some v->Je w G v (au k) (dl k) []
 l:∀ k,g k≠none->(au k).length<=1000/\k.length<=65536
 t:∀ k,g k≠none->nw k≠[]->∃ val:Nat->Vl,(∀ j,(val j).s.length<=9223372036854775807)/\tl k=au k++(List.range fs.length).map val/\∀ (j:Nat) f,fs[j]? = some f->∀ F W lv,Zp F W lv (Zj (nw k))->Calls prog 490 #[.agg #[.string f.1,.int .i64 (f.2:Int)],lv] W fun e W'=>e = .returned (.tuple #[(val j).val,.bool true])/\Chg (fun _=>False) W W'
 z:∀ k,g k≠none->Sm (old k)/\Sm (dl k)/\Sm (nw k)/\Few (nw k)/\∀ r,nf (nw k) r=nf (old k) r+nf (dl k) r
structure Zdm (w wr:World) (G:Nat->Prop) (g gc:List UInt8->Option Value) (au:List UInt8->List Vl) (dl nw:List UInt8->List (List Vl×Int)) (left:List UInt8->Bool):Prop where
 no:∀ k,g k=none->gc k=none
 ya:∀ k,g k≠none->∃ v,gc k=some v/\Je wr (Ke w w.heap.size G) v (au k) (if left k then dl k else nw k) []
theorem Zdm.chg {w wr wr':World} {G T:Nat->Prop} {g gc:List UInt8->Option Value} {au:List UInt8->List Vl} {dl nw:List UInt8->List (List Vl×Int)} {left:List UInt8->Bool} (h:Zdm w wr G g gc au dl nw left) (hc:Chg T wr wr')
  (hT:∀ b,T b->¬ Ke w w.heap.size G b):Zdm w wr' G g gc au dl nw left :=
 ⟨h.no,fun k hk=>by
  obtain ⟨v,h1,h2⟩:=h.ya k hk
  exact ⟨v,h1,h2.chg hc fun b hb hl ht=>hT b ht hb⟩⟩
structure Fx (w wr:World) (G:Nat->Prop) (g gc:List UInt8->Option Value) (au:List UInt8->List Vl) (nw:List UInt8->List (List Vl×Int)) (tl:List UInt8->List Vl) (done:List UInt8->Bool):Prop where
 no:∀ k,g k=none->gc k=none
 ya:∀ k,g k≠none->∃ v,gc k=some v/\Je wr (Ke w w.heap.size G) v (au k) (nw k) (if done k && !(nw k).isEmpty then tl k else [])
theorem Fx.chg {w wr wr':World} {G T:Nat->Prop} {g gc:List UInt8->Option Value} {au:List UInt8->List Vl} {nw:List UInt8->List (List Vl×Int)} {tl:List UInt8->List Vl} {done:List UInt8->Bool} (h:Fx w wr G g gc au nw tl done) (hc:Chg T wr wr')
  (hT:∀ b,T b->¬ Ke w w.heap.size G b):Fx w wr' G g gc au nw tl done :=
 ⟨h.no,fun k hk=>by
  obtain ⟨v,h1,h2⟩:=h.ya k hk
  exact ⟨v,h1,h2.chg hc fun b hb hl ht=>hT b ht hb⟩⟩
theorem Fx.more {w wr:World} {G:Nat->Prop} {g gd uj:List UInt8->Option Value} {au:List UInt8->List Vl} {nw:List UInt8->List (List Vl×Int)} {tl:List UInt8->List Vl} {sl:List (List UInt8)} {J:Nat} {k:List UInt8}
  (h:Fx w wr G g gd au nw tl (fun k=>decide (k∈sl.take J))) (hJ:sl[J]? = some k) (hk:g k≠none) (ho:∀ x,x≠k->uj x=gd x) (hn:∃ v,uj k=some v/\Je wr (Ke w w.heap.size G) v (au k) (nw k) (if !(nw k).isEmpty then tl k else [])) :
  Fx w wr G g uj au nw tl (fun k=>decide (k∈sl.take (J+1))):=by
 have e:sl.take (J+1)=sl.take J++[k]:=by rw [List.take_add_one,hJ]; rfl
 refine ⟨fun x hx => ?_,fun x hx => ?_⟩
 ·rw [ho x fun e=>by subst e; exact hk hx];exact h.no x hx
 ·by_cases hxk:x=k
  ·subst hxk;obtain ⟨v,h1,h2⟩:=hn;refine ⟨v,h1,?_⟩;have:decide (x∈sl.take (J+1))=true:=by rw [e]; simp
   rw [this,Bool.true_and];exact h2
  ·obtain ⟨v,h1,h2⟩:=h.ya x hx;refine ⟨v,(ho x hxk).trans h1,?_⟩;have:decide (x∈sl.take (J+1))=decide (x∈sl.take J):=by rw [e]; simp [hxk]
   rw [this];exact h2
theorem Qx.Zdn {w:World} {b:Nat} {f:List UInt8->Option Value} (h:Qx w b f) {a:Addr} {u:Value} (hu:w.cell? a=some u):a.block≠b:=by
 rintro rfl;obtain ⟨es,c,h,_⟩:=h;simp [World.cell?,h] at hu
theorem Cv {α : Type} [DecidableEq α] (x : α):decide (x=x)=true:=by simp
theorem Cw {G:Nat->Prop} {w:World} {p mb fb fo fc kc bb:Nat} {KA:Option Addr} {ks:List Nat} {fs:List (ByteArray×Nat)} {f g:List UInt8->Option Value} {au:List UInt8->List Vl} {old dl nw:List UInt8->List (List Vl×Int)} {tl:List UInt8->List Vl} {KS KB:List (List UInt8)}
  (hF:Rc w p mb fb fo fc kc KA ks fs) (hf:Qx w mb f) (hg:Qx w bb g) (hbb:mb≠bb) (zm:∀ b,G b->b≠bb) (hm:MOk w G fs f g au old dl nw tl) (ff:LR w G f) (kf:∀ k,f k≠none->k∈KS) (kg:∀ k,g k≠none->k∈KB) (kn:KS.length+KB.length<=12) :
  Calls prog 301 #[.pointer (some ⟨p,0,none⟩),.map (some bb)] w fun e w'=>e = .returned (.int .i64 0)/\Chg (fun i=>i=bb) w w'/\∃ g',Qx w' bb g'/\Fx w w' G g g' au nw tl (fun _=>true):=by
 have HF:=Hd hF;have HM:=Hd hf;have HG:=Hd hg;have bH:=Hd hm;have nZ:=Hd ff;have og:=Hd kf;have qE:=Hd kg;have fU:=Hd kn;have oo:=Hd hbb;have kD:=Hd zm;have hbl:=hg.lt;have dz:=hf.lt;have tK:=Ni;clear hF hf hg hm ff kf kg kn hbb zm
 go_enter func301,ntmps301
 have hg0:=HG.out
 go_wp2_with (at_range; go_loud (refine XI hg0 rfl _ rfl underlying426 rfl ?_); intro w1 c0 hi0 hcn hc1 hs1)
 obtain ⟨rb,hrb⟩:∃ x,x=w.heap.size:=⟨_,rfl⟩
 rw [<- hrb] at hi0;rw [<- hrb];have HI0:=Hd hi0;have jC:=Hd hrb
 have cu:=Hd (show Zdm w w1 G g g au dl nw (fun k=>(g k).isSome) from ⟨fun k h=>h,fun k h=>by
  obtain ⟨v,hv⟩:=Option.ne_none_iff_exists'.1 h;refine ⟨v,hv,?_⟩;rw [hv]
  exact ((bH.out.n k v hv).mono fun b hb hl => .inr ⟨hb,hl⟩).Zf hc1⟩)
 have aV:=hc1.mono (T':=fun i=>i=bb) fun _ _ h=>h.elim;clear hi0 hcn hc1 hs1 hg0 hrb
 go_frame
 go_loopw [16] (fun _ wr=>∃ (left:List UInt8->Bool) (cnt:Nat) (gc:List UInt8->Option Value),Hid (J7 wr rb bb gc left cnt)/\Hid (Zdm w wr G g gc au dl nw left)/\Chg (fun i=>i=bb) w wr) (fun _ wr=>Yo wr rb bb)
 case atStart=>exact ⟨_,c0,g,HI0,cu,aV⟩
 case round =>
  clear HI0 cu aV;obtain ⟨left,cnt,gc,HI,cu,hcw⟩:=hrel;have hi:=HI.out
  go_wp2_with (at_next; go_loud (refine X7 hi rfl _ rfl rfl ?_ ?_))
  ·intro hcnt hdone;have gz:=hi.map;have hfr:=HM.out.chg hcw fun h=>oo.out h
   have hbp:∀ b,b=bb->¬ Ke w w.heap.size G b:=fun b h hp=>by
    rcases hp with hp | hp
    ·omega
    ·exact kD.out b hp.1 h
   have hend:Fx w wr G g gc au nw tl (fun k=>decide (k∈([]:List (List UInt8)))):=⟨cu.out.no,fun k hk=>by
    obtain ⟨v,h1,h2⟩:=cu.out.ya k hk;rw [hdone k,if_neg (by decide)] at h2
    exact ⟨v,h1,by simpa using h2⟩⟩
   have gB:LR wr (Ke w w.heap.size G) f:=fun k v hv=>by
    obtain ⟨key,S,told,h1,h2⟩:=nZ.out k v hv;exact ⟨key,S,told,(h1.mono fun b hb hl => .inr ⟨hb,hl⟩).chg hcw fun b hb _ h=>hbp b h hb,h2⟩
   have dF:∀ k,gc k≠none->g k≠none:=fun k hk e=>hk (hend.no k e)
   have gD:LR wr (Ke w w.heap.size G) gc:=fun k v hv=>by
    have aN:=dF k (by rw [hv]; exact fun h=>by cases h);obtain ⟨v',h1,h2⟩:=hend.ya k aN;rw [hv] at h1;injection h1 with h1
    subst h1;exact ⟨_,_,_,h2,(bH.out.z k aN).2.2.2.1⟩
   have uk:=HF.out.Zf hcw fun k hk c t fr h=>by
    obtain ⟨es,cl,h2,_⟩:=HG.out;rw [hk,h2] at h;cases h
   have hfull:=Ux uk hfr gz gB gD og.out (fun k hk=>qE.out k (dF k hk)) fU.out;have oq:=Hd hend;have uo:=Hd dF;have uq:=Hd gz;have ow:=Hd uk;have aX:=Hd hcw;clear hi hdone hend gB gD dF hfr uk HI cu gz hcnt
   go_wp2_with fail
   refine hfull.mono ?_;rintro _ w2 ⟨rfl,hc2⟩;clear hfull
   go_wp2_with fail
   refine Cu.mono ?_;rintro _ w3 ⟨rfl,hcell,hc3⟩;have kE:=hc2.trans hc3 fun _ _ h=>h;have eT:=LV hcell (uq.out.chg kE fun h=>h) (fun k hk=>(bH.out.l k (uo.out k hk)).2) (fun k hk=>qE.out k (uo.out k hk)) (by have:=fU.out; omega)
   go_wp2_with fail
   refine eT.mono ?_;rintro _ w4 ⟨A,cap,sl,rfl,hsn,hsl,hsm,hc4,hcells⟩;have iX:=kE.trans hc4 fun _ _ h=>h;have iN:=Hd (And.intro hsn (And.intro hsm hcells));have O6:=Hd (show sl.length<=12 by have:=fU.out; omega);have zn:=Hd (oq.out.chg iX fun _ h=>h.elim);have nX:=Hd (uq.out.chg iX fun h=>h);have aM:Chg (fun i=>i=bb) w w4:=aX.out.trans iX fun _ _ h=>h.elim;obtain ⟨wp,hwp⟩:∃ x,x=wr:=⟨_,rfl⟩
   subst hwp;have O7:=Hd nX.out;have uu:Chg (fun i=>i=bb) wp w4:=iX.mono fun _ _ h=>h.elim
   have hnc:∀ i,i=bb->∀ c t fr,wp.heap[i]? ≠ some (.cells c t fr):=fun i hi c t fr h=>by
    obtain ⟨es,cl,h2,_⟩:=uq.out;rw [hi,h2] at h;cases h
   clear eT hsn hsl hsm hcells hc2 hc3 hc4 kE hcell hcw
   go_wp2_with fail
   go_loopw [54] (fun i wr=>∃ (J:Nat) (gd:List UInt8->Option Value),J<=sl.length/\i = .int .i64 J/\Hid (Qx wr bb gd)/\Hid (Fx w wr G g gd au nw tl (fun k=>decide (k∈sl.take J)))/\Chg (fun i=>i=bb) w wr/\Chg (fun i=>i=bb) w4 wr) (fun i _=>sl.length-(intOf i).toNat)
   case atStart=>exact ⟨0,gc,Nat.zero_le _,rfl,nX,Hd (by simpa using zn.out),aM,Chg.refl _ _⟩
   case round =>
    clear zn nX aM;obtain ⟨J,gd,hJ,rfl,oz,oC,hcw,hcv⟩:=hrel;by_cases hlt:J<sl.length
    ·obtain ⟨k,mD⟩:∃ k,sl[J]? = some k:=⟨_,List.getElem?_eq_getElem hlt⟩
     obtain ⟨b,off,rfl,q0⟩:=iN.out.2.2 J k mD;have aN:g k≠none:=uo.out k ((iN.out.2.1 k).1 (List.mem_of_getElem? mD))
     have hkn:k∉sl.take J:=fun h=>by
      obtain ⟨i,hi⟩:=List.getElem?_of_mem h;have hil:i<J:=by have:=(List.getElem?_eq_some_iff.1 hi).1; rw [List.length_take] at this; omega
      rw [List.getElem?_take_of_lt hil] at hi;have h9:=(List.getElem?_inj (i:=i) (j:=J) (by omega) iN.out.1).1 (hi.trans mD.symm);omega
     have r0:=hcv.cell q0 fun h=>(O7.out.Zdn q0) h;obtain ⟨v,hv,hgr⟩:=oC.out.ya k aN;rw [decide_eq_false hkn,Bool.false_and,if_neg (by decide)] at hgr;have zo:=Hd hgr;obtain ⟨aZ,bg,IA,ic,TA,iM,rfl,hk1,hk2,hk3⟩:=hgr.cells;have hmd:=oz.out;have hbr:b<wr.heap.size:=World.block_lt_of_cell? wr _ r0;have qI:=Hd (And.intro mD aN);have hln:=O6.out;have aD:=Hd hlt;have HV:=Hd hv;by_cases hnw:nw k=[]
     ·have h0:((nw k).length:Int)=0:=by rw [hnw]; rfl
      have qG:=Hd hnw;clear hnw mD aN hkn q0 hk1 hk2 hk3 hgr
      go_wp2_with (at_lookup; go_loud (refine Jy hmd rfl _ _ false rfl underlying426 underlying9 (Xg _) k rfl rfl ?_))
      go_roundw
      case rel =>
       have dC:=(Chg.refl (fun _=>False) wr).alloc (.cells #[.slice aZ (au k).length bg,.slice IA (nw k).length ic,.slice TA 0 iM] 431);refine ⟨J+1,gd,by have:=aD.out; omega,by go_num,Hd (oz.out.chg dC fun h=>h),Hd ((oC.out.chg dC fun _ h=>h.elim).more qI.out.1 qI.out.2 (fun _ _=>rfl) ⟨_,HV.out,?_⟩),hcw.alloc _,hcv.alloc _⟩;rw [qG.out];have:=zo.out.Zf dC;rw [qG.out] at this;exact this
      case measure=>have:=aD.out; simp [intOf]; omega
     ·obtain ⟨val,zq,htl,hone⟩:=bH.out.t k aN hnw;have uw:=ow.out.Zf (uu.trans hcv fun _ _ h=>h) hnc
      have hrow:=fun W (hc:Chg (fun _=>False) wr W)=>Uv (fs:=fs.map fun f=>(f.1,(f.2:Int))) (fb:=fb) (fo:=fo) (fc:=fc) (val:=val) (hk1.Zf hc) (bH.out.l k aN).1 (fun j f hj=>by
       rw [List.getElem?_map] at hj;obtain ⟨f',hf',rfl⟩:=Option.map_eq_some_iff.1 hj;exact (uw.Zf hc fun _ h=>h.elim).ff j f' hf') (by rw [List.length_map]; have:=HF.out.fl; omega) (fun j f hj W' hW'=>by
       rw [List.getElem?_map] at hj;obtain ⟨f',hf',rfl⟩:=Option.map_eq_some_iff.1 hj
       exact hone j f' hf' _ W' _ ((hk2.Zf hc).Zf hW')) zq
      rw [List.length_map,<- htl] at hrow;have hp1:=uw.c1;have hpl:p<wr.heap.size:=World.block_lt_of_cell? wr _ hp1
      have h0:(((nw k).length:Int)==0)=false:=by
       have:(nw k).length≠0:=fun e=>hnw (List.eq_nil_of_length_eq_zero e);rw [beq_eq_false_iff_ne];omega
      have hnl:(nw k).isEmpty=false:=by simpa using hnw
      have O8:=Hd hnl;clear hone zq htl uw hkn q0 hk1 hk2 hk3 hgr hnw hnl mD aN val
      go_wp2_with (at_lookup; go_loud (refine Jy hmd rfl _ _ false rfl underlying426 underlying9 (Xg _) k rfl rfl ?_))
      have hcd:Chg (fun _=>False) wr ((wr.alloc (.cells #[.slice aZ (au k).length bg,.slice IA (nw k).length ic,.slice TA 0 iM] 431)).drew):=((Chg.refl _ wr).alloc _).drew;have s0:=hcd.cell hp1 fun h=>h;have hblk:((wr.alloc (.cells #[.slice aZ (au k).length bg,.slice IA (nw k).length ic,.slice TA 0 iM] 431)).drew).heap[wr.heap.size]? = some (.cells #[.slice aZ (au k).length bg,.slice IA (nw k).length ic,.slice TA 0 iM] 431 (0,0)):=heap_alloc_new wr _;obtain ⟨s1,s2,_⟩:=Z6 hblk;refine Zh [1,5,7] (S:=fun wx=>wx.cell? ⟨p,1,none⟩=some (.slice (some ⟨fb,fo,none⟩) fs.length fc)/\wx.cell? ⟨wr.heap.size,0,none⟩=some (.slice aZ (au k).length bg)/\wx.cell? ⟨wr.heap.size,1,none⟩=some (.slice IA (nw k).length ic)) (by kernel_rfl) ⟨s0,s1,s2⟩ (fun hHeld => ?_);refine tkP 0 (some 66) ?_;refine tkG 1 (some 67) ?_;refine tkP 2 (some 68) ?_;refine tkP 3 (some 69) ?_;refine tkP 4 (some 70) ?_;refine tkG 5 (some 71) ?_;refine tkP 6 (some 72) ?_;refine tkG 7 (some 73) ?_;refine Zg (rs:=[8]) (by kernel_rfl) (by simp) ?_;refine Zc.ZW rfl (by kernel_rfl) (fun K hK => ?_) Zc.nil;go_simp;refine (hrow _ hcd).mono ?_;rintro _ wA ⟨u,rfl,⟨rv,rfl,aY⟩,hA⟩
      go_wp2_with fail
      refine hK.out _ _ ?_;clear hK K
      try simp only [Act.put,List.setIfInBounds_toArray,List.set_cons_zero,List.set_cons_succ]
      refine tkP 9 (some 65) ?_;refine tkP 10 (some 75) ?_;refine tkP 11 (some 76) ?_;refine tkP 12 (some 12) ?_;refine tkP 13 (some 13) ?_;refine Zr (by kernel_rfl) ?_ _;have O9:=Hd aY;obtain ⟨RA,aa,rfl,_⟩:=aY;have dG:=hA.heap hblk fun h=>h;have hcA:=hcd.trans hA fun _ _ h=>h;obtain ⟨e0,e1,_⟩:=Z6 dG;have sP:=Hd hcA;have zt:=oz.out.chg hcA fun h=>h;have hszA:=hcA.size;have aaa:=hcd.size;have HSD:=Hd (show wr.heap.size<wA.heap.size by have:=hA.size; simp at this; omega);clear s0 s1 s2 hblk dG hA hrow hp1 hmd hcA;have hlt2:=HSD.out
      go_wp2_with (at_mapUpdate; go_loud (refine YX zt rfl _ _ _ rfl underlying426 underlying9 k _ rfl rfl rfl ?_))
      intro w5 zw dx hs5;have qJ:=Hd zw;have zy:=Hd dx;clear zw zt e0 e1 dx
      go_wp2_with fail
      go_roundw
      case rel =>
       have hbp:∀ b,b=bb->¬ Ke w w.heap.size G b:=fun b h hp=>by
        rcases hp with hp | hp
        ·have:=HG.out.lt; omega
        ·exact kD.out b hp.1 h
       have gF:Chg (fun i=>i=bb) wr w5:=(sP.out.mono fun _ _ h=>h.elim).trans zy.out fun _ _ h=>h;refine ⟨J+1,_,by have:=aD.out; omega,by go_num,qJ,Hd ((oC.out.chg gF fun b h=>hbp b h).more qI.out.1 qI.out.2 (fun x hx=>QE _ _ hx) ⟨_,Qa _ _ _,?_⟩),hcw.trans gF fun _ _ h=>h,hcv.trans gF fun _ _ h=>h⟩;rw [O8.out,Bool.not_false,if_pos rfl];obtain ⟨kv,iv,tv,e,h1,h2,_⟩:=zo.out.ex;injection e with e
       have e : #[_,_,_] = #[_,_,_]:=e;simp only [Array.mk.injEq,List.cons.injEq,and_true] at e;obtain ⟨rfl,rfl,_⟩:=e;refine ⟨_,_,_,rfl,h1.chg gF fun b hb _ h=>hbp b h hb,h2.chg gF fun b hb _ h=>hbp b h hb,?_⟩;have tX:=hcw.size;refine (O9.out.chg zy.out fun b hb hl h => ?_).mono fun b hb _ => .inl ?_
       ·have hb:wr.heap.size+1<=b:=by simpa [new] using hb
        have:=oz.out.lt;omega
       ·have hb:wr.heap.size+1<=b:=by simpa [new] using hb
        omega
      case measure=>have:=aD.out; simp [intOf]; omega
    ·have hge:¬ ((J:Int)<(sl.length:Int)):=by omega
     go_wp2_with fail
     go_ret
     refine ⟨rfl,hcw,gd,oz.out,oC.out.no,fun k hk => ?_⟩;obtain ⟨v,h1,h2⟩:=oC.out.ya k hk;refine ⟨v,h1,?_⟩
     have hk2:k∈sl.take J:=by
      rw [show J=sl.length by omega,List.take_length];obtain ⟨v',h3,_⟩:=oq.out.ya k hk;exact (iN.out.2.1 k).2 (by rw [h3]; exact fun h=>by cases h)
     rw [decide_eq_true hk2] at h2;exact h2
  ·intro k v w2 cnt2 hlk bQ hi2 hlt hc2' hs2 hent;have kr:w.heap.size<=rb/\rb<=w.heap.size:=by have:=jC.out; omega
   have hwr:=hcw.size;have aN:g k≠none:=fun e=>by rw [cu.out.no k e] at bQ; cases bQ
   have gG:=cu.out.chg hc2' fun b hb h=>by simp only [Ke] at h; omega
   obtain ⟨v',hv',hgr⟩:=gG.ya k aN;rw [bQ] at hv';injection hv' with hv'
   subst hv';rw [hlk,if_pos rfl] at hgr;obtain ⟨aZ,bg,IA,ic,TA,iM,rfl,hk1,hk2,hk3⟩:=hgr.cells;obtain ⟨ox,zC,oy,hov,hos⟩:=bH.out.o k aN;have hcw2:Chg (fun i=>i=bb) w w2:=hcw.trans hc2' fun i hi h=>by omega
   have iY:=(hos.mono (G:=Ke w w.heap.size G) fun b hb hl => .inr ⟨hb,hl⟩).chg hcw2 fun b hb hl h=>by
    rcases hb with hb | hb
    ·omega
    ·exact kD.out b hb.1 h
   obtain ⟨OA,oc,rfl,_⟩:=id iY;rw [Zu] at iY hov;obtain ⟨qK,qL,uy,dE,hnw⟩:=bH.out.z k aN;have hadd:=fun W (hc:Chg (fun _=>False) w2 W)=>Tq (iY.Zf hc) (hk2.Zf hc) (by rw [Zu]; have:=qK.few; omega) (by rw [Zu]; have:=qL.few; omega) qK.rows qL.rows (by have:=qK.sum; have:=qL.sum; omega)
   have hlk2:∀ W,Chg (fun _=>False) w2 W->(Instr.lookup 426 (.map (some mb)) (QN k) false).run prog W = .ok (.agg #[ox,.slice OA (old k).length oc,oy]) W:=fun W hW=>by
    have hM:=(HM.out.chg hcw2 fun h=>oo.out h).chg hW fun h=>h;have h1:=hM.look underlying426 underlying9 (Xg W) k false;rw [h1];simp only [Bool.false_eq_true,if_false];exact congrArg (fun u=>Result.ok u W) hov
   have jD:=Hd (fun W u (F:Nat->Prop) (hc:Zp F W u (Zj (nw k)))=>TR hc uy.zr dE.2.1);have qM:=Hd (And.intro uy (And.intro hnw aN));have tQ:=Hd hk1;have HI2:=Hd hi2;have aD:=Hd (And.intro hlt hs2);have mr:=Hd hi.left_eq;have gH:=Hd gG
   have hp2:w2.cell? ⟨p,2,none⟩=some (.map (some mb)):=hcw2.cell HF.out.c2 fun h=>by
    have h1:=HG.out;obtain ⟨es,cl,h2,_⟩:=h1;have h3:=HF.out.c2;simp only at h;subst h;simp [World.cell?,h2] at h3
   have hpl:=World.block_lt_of_cell? w2 _ hp2;simp only at hpl;clear hi hi2 gG hk1 hk2 hk3 hgr hos iY hov qK qL uy dE hnw hlk bQ hlt hs2 HI cu aN
   go_wp2_with fail
   have hcd:Chg (fun _=>False) w2 ((w2.alloc (.cells #[.slice aZ (au k).length bg,.slice IA (dl k).length ic,.slice TA 0 iM] 431)).drew):=((Chg.refl _ w2).alloc _).drew;have s0:=hcd.cell hp2 fun h=>h;have s1:=hlk2 _ hcd;have hblk:((w2.alloc (.cells #[.slice aZ (au k).length bg,.slice IA (dl k).length ic,.slice TA 0 iM] 431)).drew).heap[w2.heap.size]? = some (.cells #[.slice aZ (au k).length bg,.slice IA (dl k).length ic,.slice TA 0 iM] 431 (0,0)):=heap_alloc_new w2 _;obtain ⟨_,s2,_⟩:=Z6 hblk;refine Zh [3,5,8] (S:=fun wx=>wx.cell? ⟨p,2,none⟩=some (.map (some mb))/\(Instr.lookup 426 (.map (some mb)) (QN k) false).run prog wx = .ok (.agg #[ox,.slice OA (old k).length oc,oy]) wx/\wx.cell? ⟨w2.heap.size,1,none⟩=some (.slice IA (dl k).length ic)) (by kernel_rfl) ⟨s0,s1,s2⟩ (fun hHeld => ?_);refine tkP 0 (some 22) ?_;refine tkP 1 (some 23) ?_;refine tkP 2 (some 24) ?_;refine tkG 3 (some 25) ?_;refine tkP 4 (some 26) ?_;refine tkG 5 (some 27) ?_;refine tkP 6 (some 28) ?_;refine tkP 7 (some 29) ?_;refine tkG 8 (some 30) ?_;refine Zg (rs:=[9]) (by kernel_rfl) (by simp) ?_;refine Zc.cons rfl (fun K hK => ?_) Zc.nil;go_simp;refine (hadd _ hcd).mono ?_;rintro _ wA ⟨u,S,rfl,hz,hnf,hsl,hset,hA⟩
   go_wp2_with fail
   refine hK.out _ _ ?_ ?_
   ·(intro _; exact ⟨hA.cell s0 (fun h=>h),hlk2 _ (hcd.trans hA fun _ _ h=>h),hA.cell s2 (fun h=>h)⟩)
   clear hK K
   try simp only [Act.put,List.setIfInBounds_toArray,List.set_cons_zero,List.set_cons_succ]
   refine tkP 10 (some 21) ?_;refine tkP 11 (some 32) ?_;refine tkP 12 (some 33) ?_;refine tkP 13 (some 7) ?_;refine tkP 14 (some 8) ?_;refine Zr (by kernel_rfl) ?_ _;have mh:S=nw k:=ZP.uniq hz qM.out.1.set fun r=>by rw [hnf,Z2,Wx,Wx,qM.out.2.1]
   rw [mh] at hset;have fB:=jD.out wA u _ hset;have oD:=Hd hset;have HA:=Hd hA;obtain ⟨UA,uc,rfl,_⟩:=hset;have dG:=hA.heap hblk fun h=>h;have hcA:=hcd.trans hA fun _ _ h=>h;clear mh hz hnf hsl S hlk2 hadd s0 s1 s2 hblk hA;rw [Zu] at fB oD
   go_wp2_with fail
   rw [Zu];refine fB.mono ?_;rintro _ wB ⟨rfl,hB⟩;have jE:=hB.heap dG fun h=>h;obtain ⟨e0,_,_⟩:=Z6 jE;have hcB:=hcA.trans hB fun _ _ h=>h;have zD:=HI2.out.chg hcB (fun h=>h) (fun h=>h)
   have dF:gc k≠none:=fun e=>by
    obtain ⟨v,h1,_⟩:=gH.out.ya k qM.out.2.2;rw [e] at h1;cases h1
   have HEX:=Hd (And.intro hcB (And.intro hB dF));clear fB dG jE hcA
   go_wp2_with (at_mapUpdate; go_loud (refine LP zD rfl _ _ _ rfl underlying426 underlying9 k _ rfl rfl rfl dF ?_))
   intro w3 hi3 hc3 hs3;have HI3:=Hd hi3;clear hi3 zD dF
   go_wp2_with fail
   go_roundw
   case rel =>
    obtain ⟨hcB,hB,_⟩:=HEX.out;obtain ⟨hsm,_,aN⟩:=qM.out
    have hbp:∀ b,b=bb->¬ Ke w w.heap.size G b:=fun b h hp=>by
     rcases hp with hp | hp
     ·omega
     ·exact kD.out b hp.1 h
    have dD:Chg (fun i=>i=bb) w2 w3:=(hcB.mono fun _ _ h=>h.elim).trans hc3 fun _ _ h=>h;refine ⟨_,cnt2,_,HI3,Hd ⟨fun k' hk' => ?_,fun k' hk' => ?_⟩,hcw2.trans dD fun _ _ h=>h⟩
    ·rw [QE _ _ (show k'≠k from fun e=>by subst e; exact aN hk')];exact gH.out.no k' hk'
    ·by_cases hkk:k'=k
     ·subst hkk;refine ⟨_,Qa _ _ _,⟨_,_,_,rfl,tQ.out.chg dD fun b hb _ h=>hbp b h hb,?_,Zm.Xz _ _⟩⟩;rw [Cv,Bool.not_true,Bool.and_false,if_neg (by decide)];have hszA:w.heap.size<w2.heap.size:=by have:=HI2.out.lt; omega
      refine ((oD.out.Zf hB).chg hc3 fun b hb hl h => ?_).mono fun b hb _ => .inl ?_
      ·have hb:w2.heap.size+1<=b:=by simpa [new] using hb
       omega
      ·have hb:w2.heap.size+1<=b:=by simpa [new] using hb
       omega
     ·obtain ⟨v,h1,h2⟩:=gH.out.ya k' hk';refine ⟨v,(QE _ _ hkk).trans h1,?_⟩;have:(left k' && !decide (k'=k))=left k':=by simp [hkk]
      rw [this];exact h2.chg dD fun b hb _ h=>hbp b h hb
   case measure =>
    rw [mr.out,HI3.out.left_eq];exact aD.out.1
end
section
open Go.RowKit
theorem Ps {P:Program} {t kt et:TypeId} {w:World} {b:Nat} {f:List UInt8->Option Value} {ops:Array Oper} {o:Oper} {a:Act} {Q:Exit->Act->World->Prop} {K:Act->World->Prop} {E:Prop} (h:Qx w b f) (hg:o.guard=none) (m x v:Operand) (hop:o.op=Op.mapUpdate t m x v) (ht:P.underlying t=some (.map kt et)) (hk:P.underlying kt=some .string)
  (k:List UInt8) (u:Value) (hm:a.eval m = .map (some b)) (hx:a.eval x=QN k) (hv:a.eval v=u)
  (hK:∀ w',Qx w' b (upd f k (some u))->Chg (fun i=>i=b) w w'->w'.heap.size=w.heap.size->K (a.put o.dst undef) w'):if Region.wanted o (yielded ops a.tmps)=true then Oper.wp P o a w K Q else E:=by
 rw [if_pos (by simp [Region.wanted,hg])];obtain ⟨w',hrun,r1,r2,r3⟩:=h.store ht hk k u;unfold Oper.wp;simp [execOp,hop,hm,hx,hv,hrun,Result.andThen];exact hK w' r1 r2 r3
theorem WY {P:Program} {t kt et:TypeId} {w:World} {b:Nat} {f:List UInt8->Option Value} {ops:Array Oper} {rest:List Oper} {o:Oper} {a:Act} {Q:Exit->Act->World->Prop} (h:Qx w b f) (hg:o.guard=none) (m x:Operand) (hop:o.op=Op.lookup t m x false) (ht:P.underlying t=some (.map kt et)) (hk:P.underlying kt=some .string) {z:Value} (hz:(zeroValue et).run P w = .ok z w)
  (k:List UInt8) (u:Value) (hu:(f k).getD z=u) (hm:a.eval m = .map (some b)) (hx:a.eval x=QN k) (hK:wpList P ops Q rest (a.put o.dst u) w):wpList P ops Q (o::rest) a w:=by
 subst hu;exact Jy h hg m x false hop ht hk hz k hm hx hK
structure Pu (w4 wr:World) (mb:Nat) (own:Option Nat) (B:Option Addr) (L c:Nat) (ps:List PI) (items:List Itm):Prop where
 len:L=ps.length
 few:ps.length<=100
 eq:ps.map (·.2)=items
 o:QD wr 59 2 own B L c (ZD ps)
 n:∀ g,own=some g->w4.heap.size<=g
 p:∀ p∈ps,POk (fun b=>b<w4.heap.size/\b≠mb) wr p
theorem Pu.chg {w4 wr wr':World} {mb:Nat} {own:Option Nat} {B:Option Addr} {L c:Nat} {ps:List PI} {items:List Itm} {T:Nat->Prop} (h:Pu w4 wr mb own B L c ps items) (hc:Chg T wr wr') (hT:∀ b,T b->b<w4.heap.size->b=mb) (hO:∀ b,T b->own≠some b):Pu w4 wr' mb own B L c ps items :=
 ⟨h.len,h.few,h.eq,h.o.chg hc fun b hb ht=>hO b ht hb,h.n,fun p hp=>(h.p p hp).chg hc fun b hb _ ht=>hb.2 (hT b ht hb.1)⟩
theorem Pu.push {w4 wr wC w2:World} {mb:Nat} {own own':Option Nat} {B B':Option Addr} {L c c' k:Nat} {ps:List PI} {items:List Itm} {rv:Value} {x:Itm} (h:Pu w4 wr mb own B L c ps items) (hc:Chg (fun _=>False) wr wC) (hown:QD w2 59 2 own' B' (L+1) c' (ZD ps++[rv,tc x.a x.b]))
  (hor:own'=own\/own'=some k) (hk:w4.heap.size<=k) (ae:Chg (fun b=>own=some b) wC w2) (hrow:POk (fun b=>b<w4.heap.size/\b≠mb) wC (rv,x)) (hf:ps.length<100):Pu w4 w2 mb own' B' (L+1) c' (ps++[(rv,x)]) (items++[x]) where
 len:=by rw [List.length_append,h.len]; rfl
 few:=by rw [List.length_append]; show ps.length+1<=100; omega
 eq:=by rw [List.map_append,h.eq]; rfl
 o:=by rw [QR]; exact hown
 n:=fun g hg=>by
  rcases hor with e | e
  ·exact h.n g (e▸hg)
  ·rw [e] at hg; injection hg with hg; omega
 p:=fun p hp=>by
  have hn:∀ b,b<w4.heap.size/\b≠mb->b<wC.heap.size->¬ own=some b:=fun b hb _ e=>by have:=h.n b e; omega
  rcases List.mem_append.1 hp with hp | hp
  ·exact ((h.p p hp).chg hc fun _ _ _ h=>h).chg ae hn
  ·rw [List.mem_singleton.1 hp];exact hrow.chg ae hn
def atN (ks:List Nat) (D:List (List Vl×Int)) (k:List UInt8):Option (List Vl×Int):=D.find? fun p=>decide (nmR ks p.1=k)
theorem ZfR {ks:List Nat} {D:List (List Vl×Int)} (hn:(D.map fun p=>nmR ks p.1).Nodup) {p:List Vl×Int} (hp:p∈D):atN ks D (nmR ks p.1)=some p:=by
 unfold atN
 induction D with
 | nil=>cases hp
 | cons q D ih =>
  obtain ⟨h1,h2⟩:=List.nodup_cons.1 (show (nmR ks q.1::D.map fun p=>nmR ks p.1).Nodup from hn);rw [List.find?_cons];rcases List.mem_cons.1 hp with rfl | hp
  ·simp
  ·have hne:nmR ks q.1≠nmR ks p.1:=fun e=>h1 (List.mem_map.2 ⟨p,hp,e.symm⟩);rw [decide_eq_false hne];exact ih h2 hp
def Zbm (ks:List Nat) (D:List (List Vl×Int)) (k:List UInt8):List Vl:=((atN ks D k).map fun p=>QQ ks p.1).getD []
def dlN (ks:List Nat) (D:List (List Vl×Int)) (k:List UInt8):List (List Vl×Int):=(atN ks D k).toList
structure ZkC (w:World) (G:Nat->Prop) (ks:List Nat) (fs:List (ByteArray×Nat)) (f:List UInt8->Option Value) (D:List (List Vl×Int)) (old nw:List UInt8->List (List Vl×Int)) (ax tl:List UInt8->List Vl):Prop where
 o:∀ p∈D,∃ x va y key,(f (nmR ks p.1)).getD ZfP = .agg #[x,va,y]/\Zm G w x key/\Zp G w va (Zj (old (nmR ks p.1)))/\Zm G w y (ax (nmR ks p.1))
 l:∀ p∈D,(nmR ks p.1).length<=65536
 t:∀ p∈D,nw (nmR ks p.1)≠[]->∃ val:Nat->Vl,(∀ j,(val j).s.length<=9223372036854775807)/\tl (nmR ks p.1)=QQ ks p.1++(List.range fs.length).map val/\∀ (j:Nat) f,fs[j]? = some f->∀ F W lv,Zp F W lv (Zj (nw (nmR ks p.1)))->Calls prog 490 #[.agg #[.string f.1,.int .i64 (f.2:Int)],lv] W fun e W'=>e = .returned (.tuple #[(val j).val,.bool true])/\Chg (fun _=>False) W W'
 z:∀ p∈D,Sm (old (nmR ks p.1))/\Sm [p]/\Sm (nw (nmR ks p.1))/\Few (nw (nmR ks p.1))/\∀ r,nf (nw (nmR ks p.1)) r=nf (old (nmR ks p.1)) r+nf [p] r
 ne:∀ p∈D,old (nmR ks p.1)≠[]\/nw (nmR ks p.1)≠[]
 r:∀ p∈D,(old (nmR ks p.1)≠[]->Zi (ax (nmR ks p.1))=true)/\(nw (nmR ks p.1)≠[]->Zi (tl (nmR ks p.1))=true)
def Q4 (old nw:List UInt8->List (List Vl×Int)) (ax tl:List UInt8->List Vl) (k:List UInt8):List Itm:=(if old k=[] then [] else [⟨ax k,0,1⟩])++(if nw k=[] then [] else [⟨tl k,1,0⟩])
theorem Sn (old nw:List UInt8->List (List Vl×Int)) (ax tl:List UInt8->List Vl):∀ dn:List (List UInt8),(dn.flatMap (Q4 old nw ax tl)).length<=2*dn.length
 | []=>by simp
 | k::dn=>by
  rw [List.flatMap_cons,List.length_append,List.length_cons];have h1:=Sn old nw ax tl dn;have h2:(Q4 old nw ax tl k).length<=2:=by unfold Q4; split <;> split <;> simp
  omega
theorem Sp {α : Type} [DecidableEq α]:∀ {l m:List α},l.Nodup->(∀ x∈l,x∈m)->l.length<=m.length
 | [],_,_,_=>Nat.zero_le _
 | x::l,m,hn,h=>by
  obtain ⟨h1,h2⟩:=List.nodup_cons.1 hn;have hx:=h x List.mem_cons_self;have:=Sp (m:=m.erase x) h2 fun y hy=>(List.mem_erase_of_ne fun e=>h1 (by subst e; exact hy)).2 (h y (List.mem_cons_of_mem _ hy));have hl:=List.length_erase_of_mem hx;have hp:0<m.length:=List.length_pos_of_mem hx;rw [List.length_cons];omega
theorem Nk (old nw:List UInt8->List (List Vl×Int)) (ax tl:List UInt8->List Vl):∀ dn:List (List UInt8),ZN (dn.flatMap (Q4 old nw ax tl))<=2*dn.length
 | []=>by simp [ZN]
 | k::dn=>by
  rw [List.flatMap_cons,KY,List.length_cons];have h1:=Nk old nw ax tl dn;have h2:ZN (Q4 old nw ax tl k)<=2:=by unfold Q4; split <;> split <;> simp [ZN]
  omega
structure Dn (gd f fc:List UInt8->Option Value) (nw:List UInt8->List (List Vl×Int)) (left:List UInt8->Bool) (dn:List (List UInt8)):Prop where
 nd:dn.Nodup
 lf:∀ k,gd k≠none->left k = !decide (k∈dn)
 dm:∀ k∈dn,gd k≠none
 fc:∀ k,fc k=if decide (k∈dn) then (if (nw k).isEmpty then none else gd k) else f k
theorem Dn.step {gd f fc iO:List UInt8->Option Value} {nw:List UInt8->List (List Vl×Int)} {left:List UInt8->Bool} {dn:List (List UInt8)} {k:List UInt8} (h:Dn gd f fc nw left dn) (hk:gd k≠none) (hl:left k=true) (ho:∀ x,x≠k->iO x=fc x) (hn:iO k=if (nw k).isEmpty then none else gd k) :
  Dn gd f iO nw (fun x=>left x && !decide (x=k)) (dn++[k]):=by
 have hkd:k∉dn:=fun hm=>by have:=h.lf k hk; rw [hl,decide_eq_true hm] at this; cases this
 refine ⟨?_,fun x hx => ?_,fun x hx => ?_,fun x => ?_⟩
 ·rw [List.nodup_append];exact ⟨h.nd,by simp,fun a ha b hb e=>hkd (by rw [List.mem_singleton.1 hb] at e; exact e▸ha)⟩
 ·by_cases hxk:x=k
  ·subst hxk; simp
  ·rw [h.lf x hx]; simp [hxk]
 ·rcases List.mem_append.1 hx with hx | hx
  ·exact h.dm x hx
  ·rw [List.mem_singleton.1 hx]; exact hk
 ·by_cases hxk:x=k
  ·subst hxk; rw [hn]; simp
  ·rw [ho x hxk,h.fc x]; simp [hxk]
theorem QD.Re {w:World} {e:TypeId} {k:Nat} {own:Option Nat} {A:Option Addr} {n cap:Nat} {xs:List Value} (h:QD w e k own A n cap xs) {g:Nat} (hg:own=some g):∃ cs t fr,w.heap[g]? = some (.cells cs t fr):=by
 rcases h.2.2 with ⟨h1,_⟩ | ⟨g',cur,h1,_,h2,_⟩
 ·rw [h1] at hg; cases hg
 ·rw [h1] at hg;injection hg with hg
  subst hg;exact ⟨_,_,_,h2⟩
theorem J7.Fy {w:World} {r b:Nat} {f:List UInt8->Option Value} {left:List UInt8->Bool} {cnt:Nat} (h:J7 w r b f left cnt) {cs:Array Value} {t:TypeId} {fr:Nat×Nat} {g:Nat} (hg:w.heap[g]? = some (.cells cs t fr)):g≠r/\g≠b:=by
 obtain ⟨es,clock,since,seen,c0,hb,_,hr,_⟩:=h;exact ⟨fun e=>(by subst e; rw [hr] at hg; cases hg),fun e=>(by subst e; rw [hb] at hg; cases hg)⟩
theorem Fz {G:Nat->Prop} {w:World} {sv:Value} {p mb fb fo fc kc:Nat} {KA:Option Addr} {ks:List Nat} {fs:List (ByteArray×Nat)} {f:List UInt8->Option Value} {D:List (List Vl×Int)} {old nw:List UInt8->List (List Vl×Int)} {ax tl:List UInt8->List Vl} {KS:List (List UInt8)}
  (hF:Rc w p mb fb fo fc kc KA ks fs) (hf:Qx w mb f) (zF:∀ b,G b->b≠mb) (hd:Zp G w sv (Zj D)) (hz:ZR D) (hs:∀ p∈D,Y0 ks fs p.1) (hnd:(D.map fun p=>nmR ks p.1).Nodup) (hok:ZkC w G ks fs f D old nw ax tl)
  (ff:LR w G f) (kf:∀ k,f k≠none->k∈KS) (kn:KS.length+D.length<=12) :
  Calls prog 181 #[.pointer (some ⟨p,0,none⟩),sv] w fun e w'=>∃ (u:Value) (S:List (List Vl×Int)) (dn:List (List UInt8)) (iO:List UInt8->Option Value),e = .returned (.tuple #[u,.int .i64 0])/\ZP S/\(∀ r,nf S r=Qf (dn.flatMap (Q4 old nw ax tl)) r)/\dn.Nodup/\(∀ k,k∈dn↔∃ p∈D,k=nmR ks p.1)/\Zp (new w) w' u (Zj S)/\Chg (fun i=>i=mb) w w' /\
   Qx w' mb iO/\(∀ k,k∉dn->iO k=f k)/\∀ p∈D,(nw (nmR ks p.1)=[]->iO (nmR ks p.1)=none)/\(nw (nmR ks p.1)≠[]->∃ v,iO (nmR ks p.1)=some v/\Je w' (fun b=>w.heap.size<=b\/G b/\b<w.heap.size) v (QQ ks p.1) (nw (nmR ks p.1)) (tl (nmR ks p.1))):=by
 have hright:=J9 hd hz;have HF:=Hd hF;have HM:=Hd hf;have zG:=Hd zF;have HD:=Hd hd;have HS:=Hd hs;have qD:=Hd hnd;have bH:=Hd hok;have nZ:=Hd ff;have og:=Hd kf;have fU:=Hd kn;have dz:=hf.lt;obtain ⟨SA,sc,rfl,_⟩:=id hd;rw [Zu] at hright HD ⊢;clear hF hf zF hd hz hs hnd hok ff kf kn
 go_enter func181,ntmps181
 go_wp2_with fail
 refine hright.mono ?_;rintro _ w1 ⟨rfl,hc1⟩;have hsplit:=Cq (HD.out.Zf hc1) (by have:=fU.out; omega) (HF.out.Zf hc1 fun _ h=>h.elim) HS.out qD.out;obtain ⟨bb,hbb⟩:∃ x,x=w1.heap.size:=⟨_,rfl⟩
 rw [<- hbb] at hsplit;have oo:=Hd hbb;clear hright
 go_wp2_with fail
 refine hsplit.mono ?_;rintro _ w2 ⟨rfl,hc2,g,hsp⟩;have gI:Chg (fun _=>False) w w2:=hc1.trans hc2 fun _ _ h=>h;have hsz1:=hc1.size;have hmw:=HM.out.lt
 have hgd:∀ k,g k≠none->∃ p∈D,k=nmR ks p.1:=fun k hk=>by
  obtain ⟨j,q,_,hq,e⟩:=hsp.dom k hk;exact ⟨q,List.mem_of_getElem? hq,e⟩
 have hat:∀ p,p∈D->atN ks D (nmR ks p.1)=some p:=fun p hp=>ZfR qD.out hp
 have hgs:∀ p,p∈D->∃ kv iv,g (nmR ks p.1)=some (Zin kv iv (.slice none 0 0))/\Zm (Ke w1 w1.heap.size G) w2 kv (QQ ks p.1)/\Zp (Ke w1 w1.heap.size G) w2 iv (Zj [p]):=fun p hp=>by
  obtain ⟨j,hj⟩:=List.getElem?_of_mem hp;exact hsp.has j p (List.getElem?_eq_some_iff.1 hj).1 hj
 have hmap2:Qx w2 bb g:=by rw [hbb]; exact hsp.map
 have oF:MOk w2 (Ke w1 w1.heap.size G) fs f g (Zbm ks D) old (dlN ks D) nw tl:=by
  refine ⟨fun k hk => ?_,fun k v hv => ?_,fun k hk => ?_,fun k hk hn => ?_,fun k hk => ?_⟩
  ·obtain ⟨q,hq,rfl⟩:=hgd k hk;obtain ⟨x,va,y,key,h1,_,h2,_⟩:=bH.out.o q hq;exact ⟨x,va,y,h1,(h2.mono fun b hb hl => .inr ⟨hb,by omega⟩).Zf gI⟩
  ·obtain ⟨q,hq,rfl⟩:=hgd k (by rw [hv]; exact fun h=>by cases h);obtain ⟨kv,iv,h1,h2,h3⟩:=hgs q hq;rw [hv] at h1;injection h1 with h1
   subst h1;refine ⟨kv,iv,_,rfl,?_,?_,Zm.Xz _ _⟩
   ·unfold Zbm; rw [hat q hq]; exact h2
   ·unfold dlN; rw [hat q hq]; exact h3
  ·obtain ⟨q,hq,rfl⟩:=hgd k hk;refine ⟨?_,bH.out.l q hq⟩;unfold Zbm;rw [hat q hq];have:=HF.out.kl;simp only [Option.map_some,Option.getD_some,QQ,List.length_map];omega
  ·obtain ⟨q,hq,rfl⟩:=hgd k hk;unfold Zbm;rw [hat q hq];exact bH.out.t q hq hn
  ·obtain ⟨q,hq,rfl⟩:=hgd k hk;unfold dlN;rw [hat q hq];exact bH.out.z q hq
 have gJ:=Cw (KB:=D.map fun p=>nmR ks p.1) (HF.out.Zf gI fun _ h=>h.elim) (HM.out.chg gI fun h=>h) hmap2 (by omega) (fun b hb=>by simp only [Ke] at hb; omega) oF (fun k v hv=>by
   obtain ⟨key,S,told,h1,h2⟩:=nZ.out k v hv;exact ⟨key,S,told,(h1.mono fun b hb hl => .inr ⟨hb,by omega⟩).Zf gI,h2⟩) og.out (fun k hk=>by
   obtain ⟨q,hq,rfl⟩:=hgd k hk
   exact List.mem_map.2 ⟨q,hq,rfl⟩) (by rw [List.length_map]; exact fU.out)
 have HGD:=Hd hgd
 have HGS:=Hd (show ∀ p,p∈D->g (nmR ks p.1)≠none from fun p hp=>by
  obtain ⟨kv,iv,h1,_⟩:=hgs p hp;rw [h1]
  exact fun h=>by cases h)
 have HAT:=Hd hat;have iU:=Hd gI;have HZ1:=Hd hsz1;have hb2:=hmap2.lt;clear hsplit hgd hat hgs hmap2 oF hsp hc1 hc2 hbb hsz1
 go_wp2_with fail
 refine gJ.mono ?_;rintro _ w4 ⟨rfl,hc3,gd,hmd,hend⟩;have uz:=hc3.size;have aM:Chg (fun _=>False) w w4:=iU.out.trans hc3 fun i hi h=>by have:=oo.out; have:=HZ1.out; omega
 have HE:=Hd (show ∀ q∈D,∃ v,gd (nmR ks q.1)=some v/\Je w4 (fun b=>(b<w4.heap.size/\b≠mb)/\(w.heap.size<=b\/G b/\b<w.heap.size)) v (QQ ks q.1) (nw (nmR ks q.1)) (if !(nw (nmR ks q.1)).isEmpty then tl (nmR ks q.1) else []) from fun q hq=>by
  obtain ⟨v,h1,h2⟩:=hend.ya _ (HGS.out q hq);refine ⟨v,h1,?_⟩;have e:Zbm ks D (nmR ks q.1)=QQ ks q.1:=by unfold Zbm; rw [HAT.out q hq]; rfl
  rw [e,Bool.true_and] at h2;refine h2.mono fun b hb hl => ?_;have hz1:=HZ1.out;have hz2:=iU.out.size;have hgm:=zG.out b;simp only [Ke] at hb
  have h3:w.heap.size<=b\/G b/\b<w.heap.size:=by
   rcases hb with hb | ⟨hb | hb,_⟩
   ·exact .inl (by omega)
   ·exact .inl (by omega)
   ·by_cases hlt:b<w.heap.size
    ·exact .inr ⟨hb.1,hlt⟩
    ·exact .inl (by omega)
  refine ⟨⟨hl,?_⟩,h3⟩;rcases h3 with h3 | h3
  ·omega
  ·exact hgm h3.1)
 have kF:=Hd (show ∀ k,gd k≠none->∃ q∈D,k=nmR ks q.1 from fun k hk=>HGD.out k fun e=>hk (hend.no k e));have mE:=Hd (show mb≠bb by have:=oo.out; have:=HZ1.out; omega);clear gJ hend hc3
 go_wp2_with (at_range; go_loud (refine XI hmd rfl _ rfl underlying426 rfl ?_); intro w5 c0 hi0 hcn dx hs5)
 obtain ⟨rb,hrb⟩:∃ x,x=w4.heap.size:=⟨_,rfl⟩
 rw [<- hrb] at hi0;rw [<- hrb];have HI0:=Hd hi0;have jC:=Hd hrb;have qJ:=Hd ((HM.out.chg aM fun h=>h).chg dx fun h=>h);have oG:=dx.mono (T':=fun i=>i=mb) fun _ _ h=>h.elim;have aO:=Hd aM;clear hi0 hcn dx hs5 hrb hmd aM hb2 uz
 go_frame
 go_loopw [9,32] (fun s _ wr=>∃ (left:List UInt8->Bool) (cnt:Nat) (own:Option Nat) (B:Option Addr) (L c:Nat) (ps:List PI) (dn:List (List UInt8)) (fc:List UInt8->Option Value),s = .slice B L c/\Hid (J7 wr rb bb gd left cnt)/\Hid (Qx wr mb fc)/\Hid (Pu w4 wr mb own B L c ps (dn.flatMap (Q4 old nw ax tl)))/\Hid (Dn gd f fc nw left dn)/\Chg (fun i=>i=mb) w4 wr) (fun _ _ wr=>Yo wr rb bb)
 case atStart =>
  refine ⟨_,c0,none,none,0,0,[],[],f,rfl,HI0,qJ,Hd ⟨rfl,by decide,rfl,QD.Xz _ _ _ _,fun g h=>(by cases h),fun p h=>(by cases h)⟩,Hd ⟨List.nodup_nil,fun k hk => ?_,fun k h=>(by cases h),fun k=>(by simp)⟩,oG⟩;obtain ⟨v,hv⟩:=Option.ne_none_iff_exists'.1 hk;simp [hv]
 case round =>
  clear HI0 qJ oG;obtain ⟨left,cnt,own,B,L,c,ps,dn,dH,rfl,HI,zH,HO,fC,hcw⟩:=hrel;have hi:=HI.out
  go_wp2_with (at_next; go_loud (refine X7 hi rfl _ rfl rfl ?_ ?_))
  ·intro hcnt hdone
   have hdn:∀ k,k∈dn↔∃ q∈D,k=nmR ks q.1:=fun k=>by
    constructor
    ·intro hk; exact kF.out k (fC.out.dm k hk)
    ·rintro ⟨q,hq,rfl⟩;obtain ⟨v,hv,_⟩:=HE.out q hq;have h1:=fC.out.lf (nmR ks q.1) (by rw [hv]; exact fun h=>by cases h);rw [hdone] at h1;by_cases hm:nmR ks q.1∈dn
     ·exact hm
     ·rw [decide_eq_false hm] at h1; cases h1
   have hdl:dn.length<=12:=by
    have h1:=Sp (m:=D.map fun p=>nmR ks p.1) fC.out.nd fun x hx=>by
     obtain ⟨q',hq',e⟩:=(hdn x).1 hx;exact List.mem_map.2 ⟨q',hq',e.symm⟩
    rw [List.length_map] at h1;have:=fU.out;omega
   have hset:Zp (fun _=>True) wr (.slice B L c) (dn.flatMap (Q4 old nw ax tl)):=by
    have h1:=Zp.Pg (F:=fun _=>True) (HO.out.o.cs.mono fun _ _ _=>trivial) HO.out.len HO.out.o.fits HO.out.o.Wg fun p hp=>(HO.out.p p hp).mono fun _ _ _=>trivial;rw [HO.out.eq] at h1;exact h1
   have jF:=Nl hset (by have:=Sn old nw ax tl dn; omega) (fun x hx=>by
    obtain ⟨k,hk,hx⟩:=List.mem_flatMap.1 hx;obtain ⟨q,hq,rfl⟩:=(hdn k).1 hk;have hr:=bH.out.r q hq;unfold Q4 at hx;rcases List.mem_append.1 hx with hx | hx
    ·split at hx
     ·cases hx
     ·rename_i h; rw [List.mem_singleton.1 hx]; exact hr.1 h
    ·split at hx
     ·cases hx
     ·rename_i h; rw [List.mem_singleton.1 hx]; exact hr.2 h) (by have:=Nk old nw ax tl dn; omega)
   have oH:=Hd hdn;have qF:=Hd jF;have HSZ:=Hd hi.lt;clear hi hcnt hdone hdn hdl hset jF HI
   go_wp2_with fail
   refine qF.out.mono ?_;rintro _ w9 ⟨u,S,rfl,hz,hnf,_,eU,dI⟩;have HS9:=Hd (And.intro hz (And.intro hnf (And.intro eU dI)));obtain ⟨UA,uc,rfl,_⟩:=eU;clear hz hnf dI
   go_wp2_with fail
   go_ret2
   obtain ⟨hz,hnf,eU,dI⟩:=HS9.out;have uA:Chg (fun i=>i=mb) w w9:=((aO.out.mono (T':=fun i=>i=mb) fun _ _ h=>h.elim).trans hcw fun _ _ h=>h).trans dI fun _ _ h=>h.elim;refine ⟨_,S,dn,dH,rfl,hz,hnf,fC.out.nd,oH.out,eU.mono fun b hb _ => ?_,uA,zH.out.chg dI fun h=>h,fun k hk => ?_,fun q hq => ?_⟩
   ·have h1:wr.heap.size<=b:=hb;have h2:=hcw.size;have h3:=aO.out.size;show w.heap.size<=b;omega
   ·rw [fC.out.fc k,decide_eq_false hk,if_neg (by decide)]
   ·have hm:=(oH.out (nmR ks q.1)).2 ⟨q,hq,rfl⟩;have hf:=fC.out.fc (nmR ks q.1);rw [decide_eq_true hm,if_pos rfl] at hf;refine ⟨fun h=>by rw [hf,h]; rfl,fun h => ?_⟩;have hn:(nw (nmR ks q.1)).isEmpty=false:=by simpa using h
    obtain ⟨v,hv,hgr⟩:=HE.out q hq;rw [hn] at hf hgr;refine ⟨v,hf.trans hv,?_⟩;exact ((hgr.chg hcw fun b hb _ h=>hb.1.2 h).Zf dI).mono fun b hb _=>hb.2
  ·intro k v w6 cnt2 hlk aN hi2 hlt hc6 hs6 hent;obtain ⟨q,hq,hkq⟩:=kF.out k (by rw [aN]; exact fun h=>by cases h);have zI:=hi.left_eq;have gK:Chg (fun i=>i=mb\/i=rb) w4 w6:=(hcw.mono (T':=fun i=>i=mb\/i=rb) fun _ _ h => .inl h).trans hc6 fun _ _ h => .inr h;have aag:w4.heap.size<=rb/\rb<wr.heap.size:=by have:=jC.out; have:=hi.lt; omega
   obtain ⟨v',hv',bX⟩:=HE.out q hq;rw [<- hkq,aN] at hv';rw [<- hkq] at bX;injection hv' with hv'
   subst hv'
   have hgr:=bX.chg gK fun b hb _ h=>by
    rcases h with h | h
    ·exact hb.1.2 h
    ·omega
   obtain ⟨told,htold⟩:∃ x,x=(if !(nw k).isEmpty then tl k else []):=⟨_,rfl⟩
   rw [<- htold] at hgr;have jG:=Hd htold;clear htold;obtain ⟨aZ,bg,IA,ic,TA,tcp,rfl,hk1,hk2,hk3⟩:=hgr.cells;obtain ⟨ox,zC,oy,fD,hov,hx1,hx2,hx3⟩:=bH.out.o q hq;rw [<- hkq] at hov hx2 hx3
   have hkd:k∉dn:=fun hm=>by
    have:=fC.out.lf k (by rw [aN]; exact fun h=>by cases h);rw [hlk,decide_eq_true hm] at this;cases this
   have bQ:(dH k).getD ZfP = .agg #[ox,zC,oy]:=by rw [fC.out.fc k,decide_eq_false hkd,if_neg (by decide)]; exact hov
   have kG:Chg (fun i=>i=mb) w w6:=(aO.out.mono (T':=fun i=>i=mb) fun _ _ h=>h.elim).trans gK fun i hi h=>by
    rcases h with h | h
    ·exact h
    ·have:=aO.out.size; omega
   have oI:=(hx3.mono (G:=fun b=>(b<w4.heap.size/\b≠mb)/\b<w.heap.size) fun b hb hl=>⟨⟨by have:=aO.out.size; omega,zG.out b hb⟩,hl⟩).chg kG fun b hb _ h=>hb.1.2 h;obtain ⟨XA,xc,rfl,_⟩:=id hx1;obtain ⟨OA,oc,rfl,_⟩:=id hx2;obtain ⟨YA,yc,rfl,_⟩:=id hx3;rw [Zu] at bQ hov
   have hp2:w6.cell? ⟨p,2,none⟩=some (.map (some mb)):=kG.cell HF.out.c2 fun h=>by
    obtain ⟨es,cl,h2,_⟩:=HM.out;have h3:=HF.out.c2;simp only at h;subst h;simp [World.cell?,h2] at h3
   have hpl:=World.block_lt_of_cell? w6 _ hp2;simp only at hpl;have uB:Qx w6 mb dH:=zH.out.chg hc6 fun h=>by have:=HM.out.lt; have:=aO.out.size; omega
   have qN:Pu w4 w6 mb own B L c ps (dn.flatMap (Q4 old nw ax tl)):=HO.out.chg hc6 (fun b h hl=>by omega) fun b h e=>by
    obtain ⟨cs,t,fr,hh⟩:=HO.out.o.Re e;exact (hi.Fy hh).1 h
   have hown6:∀ b,own=some b->b<w6.heap.size:=fun b hb=>qN.o.lt hb;have hst:=ZE;have gL:∀ W,Calls prog 165 #[.int .i64 1,.int .i64 0] W fun e w'=>e = .returned (.complex .f64 (fl 1) (fl 0))/\Chg (fun _=>False) W w':=fun W=>MF 1 0 W;have gM:∀ W,Calls prog 165 #[.int .i64 0,.int .i64 1] W fun e w'=>e = .returned (.complex .f64 (fl 0) (fl 1))/\Chg (fun _=>False) W w':=fun W=>MF 0 1 W;have hw4:w4.heap.size<=w6.heap.size:=gK.size
   have hdl:dn.length<=11:=by
    have h1:=Sp (m:=(D.map fun p=>nmR ks p.1).erase k) fC.out.nd fun x hx=>by
     obtain ⟨q',hq',e⟩:=kF.out x (fC.out.dm x hx);exact (List.mem_erase_of_ne fun e2=>hkd (by subst e2; exact hx)).2 (List.mem_map.2 ⟨q',hq',e.symm⟩)
    have h2:=List.length_erase_of_mem (List.mem_map.2 ⟨q,hq,hkq.symm⟩:k∈D.map fun p=>nmR ks p.1);rw [List.length_map] at h2;have:=fU.out;omega
   have oJ:ps.length<=22:=by
    have h1:=Sn old nw ax tl dn;rw [<- qN.eq,List.length_map] at h1;omega
   have iZ:=Hd qN;have dJ:=Hd uB;have HI2:=Hd hi2;have HQ:=Hd (And.intro hq (And.intro hkq (And.intro hlk aN)));have aD:=Hd (And.intro hlt zI);have HK1:=Hd hk1;have zJ:=Hd hk3;have zK:=Hd oI;have kH:=Hd gK;have HOWN:=Hd hown6;have gP:=Hd oJ;clear hi hi2 qN hq hkq hlk aN hlt zI hk1 hk2 hk3 hx1 hx2 hx3 oI hgr bX hov hkd gK kG hown6 hdl oJ HI HO hs6 hc6
   have dQ:=Hd (show ∀ b,own=some b->b≠mb/\b≠rb/\b≠bb from fun b hb=>by
    obtain ⟨cs,t,fr,hh⟩:=iZ.out.o.Re hb;have h1:=HI2.out.Fy hh;refine ⟨fun e => ?_,h1.1,h1.2⟩;obtain ⟨es,cl,h2,_⟩:=dJ.out;rw [e,h2] at hh
    cases hh)
   by_cases ho:old k=[]
   ·have hol:((old k).length:Int)=0:=by rw [ho]; rfl
    by_cases hn:nw k=[]
    ·have:=HQ.out.2.1;rcases bH.out.ne q HQ.out.1 with h | h
     ·rw [<- this] at h; exact absurd ho h
     ·rw [<- this] at h; exact absurd hn h
    ·have hnl:(((nw k).length:Int)==0)=false:=by
      have:(nw k).length≠0:=fun e=>hn (List.eq_nil_of_length_eq_zero e);rw [beq_eq_false_iff_ne];omega
     have HH:=Hd (And.intro ho hn);clear ho hn
     go_wp2_with (at_lookup; go_loud (refine WY (dJ.out.chg ((Chg.refl (fun _=>False) w6).alloc _) fun h=>h) rfl _ _ rfl underlying426 underlying9 (Xg _) k _ bQ rfl rfl ?_))
     obtain ⟨ww,gQ⟩:∃ x,x=((w6.alloc (.cells #[.slice aZ (QQ ks q.1).length bg,.slice IA (nw k).length ic,.slice TA told.length tcp] 431)).alloc (.cells #[.slice XA fD.length xc,.slice OA (old k).length oc,.slice YA (ax k).length yc] 431)):=⟨_,rfl⟩
     rw [<- gQ]
     have kI:(ww.heap[w6.heap.size]? = some (.cells #[.slice aZ (QQ ks q.1).length bg,.slice IA (nw k).length ic,.slice TA told.length tcp] 431 (0,0))/\ww.heap[w6.heap.size+1]? = some (.cells #[.slice XA fD.length xc,.slice OA (old k).length oc,.slice YA (ax k).length yc] 431 (0,0)))/\Chg (fun _=>False) w6 ww/\ww.heap.size=w6.heap.size+2:=by
      subst gQ;exact ⟨Qw (Chg.refl _ _),((Chg.refl _ _).alloc _).alloc _,by show ((w6.heap.push _).push _).size=_; rw [Array.size_push,Array.size_push]⟩
     obtain ⟨⟨hgb,bF⟩,hcW,hszW⟩:=kI;have HOW:=Hd (iZ.out.chg hcW (fun _ h=>h.elim) fun _ h=>h.elim);have dP:=Hd hszW;have aX:=Hd hcW;have kD:=Hd hgb;clear gQ hszW bQ;have uC:ww.cell? ⟨p,2,none⟩=some (.map (some mb)):=aX.out.cell hp2 fun h=>h;have uD:Qx ww mb dH:=dJ.out.chg aX.out fun h=>h;have oK:=HOW;have HIS:=Hd (HI2.out.chg aX.out (fun h=>h) fun h=>h);have HAS:=Hd (And.intro dQ.out (show ∀ b,own=some b->b≠w6.heap.size from fun b hb=>by have:=HOWN.out b hb; omega));have gT:=Hd ((kH.out.trans aX.out fun _ _ h=>h.elim).mono (T':=fun i=>i=mb) fun i hi h=>by omega);have kJ:=Hd ((zJ.out.mono (G:=fun b=>(b<w4.heap.size/\b≠mb)/\b<w4.heap.size) fun b hb _=>⟨hb.1,hb.1.1⟩).Zf aX.out);have oL:=hgb;have fB:p<ww.heap.size:=by have:=dP.out; omega
     have oM:w6.heap.size<ww.heap.size:=by have:=dP.out; omega
     clear hp2;have s0:(ww.drew).cell? ⟨p,2,none⟩=some (.map (some mb)):=uC;have oN:(ww.drew).heap[w6.heap.size]? = some (.cells #[.slice aZ (QQ ks q.1).length bg,.slice IA (nw k).length ic,.slice TA told.length tcp] 431 (0,0)):=hgb;obtain ⟨s1,s2,s3⟩:=Z6 oN;have oO:Qx (ww.drew) mb dH:=uD;refine Zh [3,5] (S:=fun wx=>wx.cell? ⟨p,2,none⟩=some (.map (some mb))/\wx.cell? ⟨w6.heap.size,0,none⟩=some (.slice aZ (QQ ks q.1).length bg)/\wx.cell? ⟨w6.heap.size,1,none⟩=some (.slice IA (nw k).length ic)/\wx.cell? ⟨w6.heap.size,2,none⟩=some (.slice TA told.length tcp)) (by kernel_rfl) ⟨s0,s1,s2,s3⟩ (fun hHeld => ?_);refine tkP 0 (some 63) ?_;refine tkP 1 (some 64) ?_;refine tkP 2 (some 65) ?_;refine tkG 3 (some 66) ?_;refine tkP 4 (some 67) ?_;refine tkG 5 (some 68) ?_;refine Zg (rs:=[6]) (by kernel_rfl) (by simp) ?_;refine Zc.ZW rfl (by kernel_rfl) (fun K hK => ?_) Zc.nil;refine Ps oO rfl _ _ _ rfl underlying426 underlying9 k (.agg #[.slice aZ (QQ ks q.1).length bg,.slice IA (nw k).length ic,.slice TA told.length tcp]) rfl rfl rfl ?_;intro w8 oP hc8 uE;refine hK.out _ _ ?_;clear hK K
     try simp only [Act.put,List.setIfInBounds_toArray,List.set_cons_zero,List.set_cons_succ]
     refine Zr (by kernel_rfl) ?_ _;have cz:Chg (fun i=>i=mb) ww w8:=((Chg.refl _ ww).drew).trans hc8 fun _ _ h=>h;have gU:mb≠w6.heap.size:=by have:=HM.out.lt; have:=aO.out.size; omega
     have dU:=Hd (oK.out.chg cz (fun b hb _=>hb) fun b hb e=>(HAS.out.1 b e).1 hb);have kK:=cz.heap oL fun e=>gU e.symm;obtain ⟨_,_,oQ⟩:=Z6 kK;have kL:(w8.drew).cell? ⟨w6.heap.size,2,none⟩=some (.slice TA told.length tcp):=oQ;have uF:=Hd oP;have gV:=Hd cz;have uG:w6.heap.size<w8.heap.size:=lt_of_block kK;clear oP hc8 uE kK oO oN s0 s1 s2 s3 oL cz;have oU:=HAS.out.2
     go_wp2_with fail
     refine Zh [2] (S:=fun wx=>wx.cell? ⟨w6.heap.size,2,none⟩=some (.slice TA told.length tcp)) (by kernel_rfl) kL (fun hHeld => ?_);refine tkP 0 (some 69) ?_;refine tkP 1 (some 70) ?_;refine tkG 2 (some 71) ?_;refine Zg (rs:=[3]) (by kernel_rfl) (by simp) ?_;refine Zc.cons rfl (fun K hK => ?_) Zc.nil;go_simp;refine (gL _).mono ?_;rintro _ mF ⟨rfl,uH⟩;have kM:=uH.cell kL (fun h=>h);refine hK.out _ _ ?_ ?_
     ·(intro _; exact kM)
     clear hK K
     try simp only [Act.put,List.setIfInBounds_toArray,List.set_cons_zero,List.set_cons_succ]
     refine tkP 4 (some 73) ?_;refine Zg (rs:=[5]) (by kernel_rfl) (by simp) ?_;refine Zc.cons rfl (fun K hK => ?_) Zc.nil;go_simp;have kN:(mF.alloc (.cells #[.slice TA told.length tcp,.complex .f64 (fl 1) (fl 0)] 59)).cell? ⟨w6.heap.size,2,none⟩=some (.slice TA told.length tcp):=((Chg.refl (fun _=>False) mF).alloc _).cell kM (fun h=>h);refine hK.out _ _ ?_ ?_
     ·(intro _; exact kN)
     clear hK K
     try simp only [Act.put,List.setIfInBounds_toArray,List.set_cons_zero,List.set_cons_succ]
     refine Zg (rs:=[6]) (by kernel_rfl) (by simp) ?_;refine Zc.cons rfl (fun K hK => ?_) Zc.nil;have zL:=Hd (X5 mF (.slice TA told.length tcp) (.complex .f64 (fl 1) (fl 0)) 59);have fE:Chg (fun _=>False) w8 mF:=((Chg.refl (fun _=>False) w8).drew).trans uH fun _ _ h=>h;have oV:=Hd (dU.out.o.chg (fE.alloc (.cells #[.slice TA told.length tcp,.complex .f64 (fl 1) (fl 0)] 59)) fun _ _ h=>h);refine J6 rfl _ _ 44 44 rfl 59 2 40 VK own _ L c 1 (ZD ps) [.slice TA told.length tcp,.complex .f64 (fl 1) (fl 0)] _ rfl rfl oV.out (X4.slice zL.out) (by simp [Value.oneCell']) (L+1) rfl ?_ ?_ ?_
     ·have:=dU.out.len; have:=dU.out.few; omega
     ·have:=dU.out.len; have:=dU.out.few; omega
     intro uI Bc cc vc jH gu eX;have zM:=Hd jH;clear jH;have oW:∀ b,own=some b->b≠w6.heap.size:=fun b hb=>(by have:=HOWN.out b hb; omega)
     have oZ:=eX.cell kN (fun h=>oW _ h rfl);go_simp;refine hK.out _ _ ?_ ?_
     ·(intro _; exact oZ)
     clear hK K
     try simp only [Act.put,List.setIfInBounds_toArray,List.set_cons_zero,List.set_cons_succ]
     refine tkP 7 (some 9) ?_;refine Zr (by kernel_rfl) ?_ _
     have htl:told=tl k:=by
      rw [jG.out];have:(nw k).isEmpty=false:=by simpa using HH.out.2
      rw [this]; rfl
     have kP:told.length<=1000000:=by
      have h1:=(bH.out.r q HQ.out.1).2;rw [<- HQ.out.2.1] at h1;have:=Xf (h1 HH.out.2);rw [htl];omega
     have dV:=fE.size;have uJ:=Hd (dU.out.push (x:=⟨told,1,0⟩) (fE.alloc (.cells #[.slice TA told.length tcp,.complex .f64 (fl 1) (fl 0)] 59)) zM.out gu (Nat.le_trans (show w4.heap.size<=mF.heap.size by have:=dU.out.o; have:=gT.out.size; have:=gV.out.size; omega) ((Chg.refl (fun _=>False) mF).alloc _).size) eX ⟨((kJ.out.mono fun b hb _=>hb.1).chg gV.out fun b hb _ h=>hb.2 h).Zf (fE.alloc _),(show 1<=1125899906842624 by decide),Nat.zero_le _,kP⟩ (by have:=gP.out; omega));have o5:Chg (fun b=>own=some b) w8 vc:=((fE.alloc _).mono fun _ _ h=>h.elim).trans eX fun _ _ h=>h;have ja:=Hd o5;clear fE uH zM gu eX zL oV oW oZ kL kM kN o5 dV gU oQ
     go_wp2_with fail
     go_roundw
     case rel =>
      have hmb:mb≠rb/\mb≠bb:=⟨by have:=HM.out.lt; have:=aO.out.size; omega,mE.out⟩
      obtain ⟨hq,hkq,hlk,aN⟩:=HQ.out;refine ⟨_,cnt2,uI,Bc,L+1,cc,(ps++[(.slice TA told.length tcp,⟨told,1,0⟩)]),dn++[k],_,rfl,Hd ((HIS.out.chg gV.out (fun e=>hmb.2 e.symm) fun e=>hmb.1 e.symm).chg ja.out (fun e=>(HAS.out.1 _ e).2.2 rfl) fun e=>(HAS.out.1 _ e).2.1 rfl),Hd (uF.out.chg ja.out fun e=>(HAS.out.1 _ e).1 rfl),Hd ?_,Hd (fC.out.step (by rw [aN]; exact fun h=>by cases h) hlk (fun x hx=>QE _ _ hx) ((Qa _ _ _).trans ?_)),((gT.out.trans gV.out fun _ _ h=>h).mono (T':=fun i=>i=mb\/w4.heap.size<=i) (fun i hi h => .inl h) |>.trans ja.out fun i hi e => .inr (oK.out.n _ e)).mono fun i hi h=>by omega⟩
      ·have e1:(dn++[k]).flatMap (Q4 old nw ax tl)=(dn.flatMap (Q4 old nw ax tl))++[⟨told,1,0⟩]:=by
        rw [List.flatMap_append,htl];simp [Q4,HH.out.1,HH.out.2]
       rw [e1];exact uJ.out
      ·have:(nw k).isEmpty=false:=by simpa using HH.out.2
       rw [this,aN];rfl
     case measure =>
      have hmb:mb≠rb/\mb≠bb:=⟨by have:=HM.out.lt; have:=aO.out.size; omega,mE.out⟩
      rw [aD.out.2,((HIS.out.chg gV.out (fun e=>hmb.2 e.symm) fun e=>hmb.1 e.symm).chg ja.out (fun e=>(HAS.out.1 _ e).2.2 rfl) fun e=>(HAS.out.1 _ e).2.1 rfl).left_eq];exact aD.out.1
   ·have hol:(0:Int)<((old k).length:Int):=by
     have:(old k).length≠0:=fun e=>ho (List.eq_nil_of_length_eq_zero e);omega
    by_cases hn:nw k=[]
    ·have hnl:((nw k).length:Int)=0:=by rw [hn]; rfl
     have HH:=Hd (And.intro ho hn);clear ho hn
     go_wp2_with (at_lookup; go_loud (refine WY (dJ.out.chg ((Chg.refl (fun _=>False) w6).alloc _) fun h=>h) rfl _ _ rfl underlying426 underlying9 (Xg _) k _ bQ rfl rfl ?_))
     obtain ⟨ww,gQ⟩:∃ x,x=((w6.alloc (.cells #[.slice aZ (QQ ks q.1).length bg,.slice IA (nw k).length ic,.slice TA told.length tcp] 431)).alloc (.cells #[.slice XA fD.length xc,.slice OA (old k).length oc,.slice YA (ax k).length yc] 431)):=⟨_,rfl⟩
     rw [<- gQ]
     have kI:(ww.heap[w6.heap.size]? = some (.cells #[.slice aZ (QQ ks q.1).length bg,.slice IA (nw k).length ic,.slice TA told.length tcp] 431 (0,0))/\ww.heap[w6.heap.size+1]? = some (.cells #[.slice XA fD.length xc,.slice OA (old k).length oc,.slice YA (ax k).length yc] 431 (0,0)))/\Chg (fun _=>False) w6 ww/\ww.heap.size=w6.heap.size+2:=by
      subst gQ;exact ⟨Qw (Chg.refl _ _),((Chg.refl _ _).alloc _).alloc _,by show ((w6.heap.push _).push _).size=_; rw [Array.size_push,Array.size_push]⟩
     obtain ⟨⟨hgb,bF⟩,hcW,hszW⟩:=kI;have HOW:=Hd (iZ.out.chg hcW (fun _ h=>h.elim) fun _ h=>h.elim);have dP:=Hd hszW;have aX:=Hd hcW;have kD:=Hd hgb;clear gQ hszW bQ;obtain ⟨_,_,uK⟩:=Z6 bF;have dW:(ww.drew).cell? ⟨w6.heap.size+1,2,none⟩=some (.slice YA (ax k).length yc):=uK;refine Zh [2] (S:=fun wx=>wx.cell? ⟨(w6.heap.size+1),2,none⟩=some (.slice YA (ax k).length yc)) (by kernel_rfl) dW (fun hHeld => ?_);refine tkP 0 (some 47) ?_;refine tkP 1 (some 48) ?_;refine tkG 2 (some 49) ?_;refine Zg (rs:=[3]) (by kernel_rfl) (by simp) ?_;refine Zc.cons rfl (fun K hK => ?_) Zc.nil;go_simp;refine (gM _).mono ?_;rintro _ dX ⟨rfl,kQ⟩;have gW:=kQ.cell dW (fun h=>h);refine hK.out _ _ ?_ ?_
     ·(intro _; exact gW)
     clear hK K
     try simp only [Act.put,List.setIfInBounds_toArray,List.set_cons_zero,List.set_cons_succ]
     refine tkP 4 (some 51) ?_;refine Zg (rs:=[5]) (by kernel_rfl) (by simp) ?_;refine Zc.cons rfl (fun K hK => ?_) Zc.nil;go_simp;have gX:(dX.alloc (.cells #[.slice YA (ax k).length yc,.complex .f64 (fl 0) (fl 1)] 59)).cell? ⟨(w6.heap.size+1),2,none⟩=some (.slice YA (ax k).length yc):=((Chg.refl (fun _=>False) dX).alloc _).cell gW (fun h=>h);refine hK.out _ _ ?_ ?_
     ·(intro _; exact gX)
     clear hK K
     try simp only [Act.put,List.setIfInBounds_toArray,List.set_cons_zero,List.set_cons_succ]
     refine Zg (rs:=[6]) (by kernel_rfl) (by simp) ?_;refine Zc.cons rfl (fun K hK => ?_) Zc.nil;have o6:=Hd (X5 dX (.slice YA (ax k).length yc) (.complex .f64 (fl 0) (fl 1)) 59);have aW:Chg (fun _=>False) ww dX:=((Chg.refl (fun _=>False) ww).drew).trans kQ fun _ _ h=>h;have gY:=Hd (HOW.out.o.chg (aW.alloc (.cells #[.slice YA (ax k).length yc,.complex .f64 (fl 0) (fl 1)] 59)) fun _ _ h=>h);refine J6 rfl _ _ 44 44 rfl 59 2 40 VK own _ L c 1 (ZD ps) [.slice YA (ax k).length yc,.complex .f64 (fl 0) (fl 1)] _ rfl rfl gY.out (X4.slice o6.out) (by simp [Value.oneCell']) (L+1) rfl ?_ ?_ ?_
     ·have:=HOW.out.len; have:=HOW.out.few; omega
     ·have:=HOW.out.len; have:=HOW.out.few; omega
     intro cK Ba ca va dK dY aS;have o7:=Hd dK;clear dK;have gZ:∀ b,own=some b->b≠(w6.heap.size+1):=fun b hb=>(by have:=HOWN.out b hb; omega)
     have ib:=aS.cell gX (fun h=>gZ _ h rfl);go_simp;refine hK.out _ _ ?_ ?_
     ·(intro _; exact ib)
     clear hK K
     try simp only [Act.put,List.setIfInBounds_toArray,List.set_cons_zero,List.set_cons_succ]
     refine tkP 7 (some 9) ?_;refine Zr (by kernel_rfl) ?_ _
     have kR:(ax k).length<=1000000:=by
      have h1:=(bH.out.r q HQ.out.1).1;rw [<- HQ.out.2.1] at h1;have:=Xf (h1 HH.out.1);omega
     have dV:=aW.size;have bI:=Hd (HOW.out.push (x:=⟨ax k,0,1⟩) (aW.alloc (.cells #[.slice YA (ax k).length yc,.complex .f64 (fl 0) (fl 1)] 59)) o7.out dY (Nat.le_trans (show w4.heap.size<=dX.heap.size by have:=dP.out; omega) ((Chg.refl (fun _=>False) dX).alloc _).size) aS ⟨((zK.out.mono fun b hb _=>hb.1).Zf aX.out).Zf (aW.alloc _),Nat.zero_le _,(show 1<=1125899906842624 by decide),kR⟩ (by have:=gP.out; omega));have cZ:Chg (fun b=>own=some b) ww va:=((aW.alloc _).mono fun _ _ h=>h.elim).trans aS fun _ _ h=>h;have fF:=cZ.heap hgb fun e=>by have:=HOWN.out _ e; omega
     have hpw:p<w.heap.size:=World.block_lt_of_cell? w _ HF.out.c2
     have kS:va.cell? ⟨p,2,none⟩=some (.map (some mb)):=cZ.cell (aX.out.cell hp2 fun h=>h) fun e=>by
      have h1:w4.heap.size<=p:=iZ.out.n _ e;have h2:=aO.out.size;omega
     have fG:Qx va mb dH:=(dJ.out.chg aX.out fun h=>h).chg cZ fun e=>(dQ.out _ e).1 rfl;have fH:=Hd ((HI2.out.chg aX.out (fun h=>h) fun h=>h).chg cZ (fun e=>(dQ.out _ e).2.2 rfl) fun e=>(dQ.out _ e).2.1 rfl);have bu:Chg (fun i=>i=mb) w4 va:=(((kH.out.trans aX.out fun _ _ h=>h.elim).mono (T':=fun i=>i=mb\/w4.heap.size<=i) fun i hi h=>by omega).trans cZ fun i hi e => .inr (iZ.out.n _ e)).mono fun i hi h=>by omega
     have ig:∀ b,cK=some b->b≠w6.heap.size:=fun b hb=>by
      rcases dY with e | e
      ·rw [e] at hb; have:=HOWN.out b hb; omega
      ·rw [e] at hb; injection hb with hb; have h8:=((Chg.refl (fun _=>False) dX).alloc (.cells #[.slice YA (ax k).length yc,.complex .f64 (fl 0) (fl 1)] 59)).size; have:=dP.out; omega
     have ik:=cZ.size
     have il:∀ b,cK=some b->b≠mb/\b≠rb/\b≠bb:=fun b hb=>by
      obtain ⟨cs,t,fr,hh⟩:=bI.out.o.Re hb;have h1:=fH.out.Fy hh;refine ⟨fun e => ?_,h1.1,h1.2⟩;obtain ⟨es,cl,h2,_⟩:=fG;rw [e,h2] at hh;cases hh
     have fB:p<va.heap.size:=by have:=dP.out; omega
     have oM:w6.heap.size<va.heap.size:=by have:=dP.out; omega
     have mG:=Hd (And.intro cZ (And.intro bu (And.intro ig il)));clear il aW kQ o7 dY aS o6 gY gZ ib dW hgb bF hpw ig bu cZ ik dV hp2;obtain ⟨d0,d1,d2⟩:=Z6 fF
     go_wp2_with (at_delete; go_loud (refine G8 fG rfl _ _ rfl underlying426 underlying9 k rfl rfl ?_))
     intro w9 zN dI hs9;have HM9:=Hd zN;clear zN fG d0 d1 d2 fF kS
     go_wp2_with fail
     go_roundw
     case rel =>
      obtain ⟨cZ,bu,_⟩:=mG.out;have hmb:mb≠rb/\mb≠bb:=⟨by have:=HM.out.lt; have:=aO.out.size; omega,mE.out⟩
      obtain ⟨hq,hkq,hlk,aN⟩:=HQ.out;refine ⟨_,cnt2,cK,Ba,L+1,ca,(ps++[(.slice YA (ax k).length yc,⟨ax k,0,1⟩)]),dn++[k],_,rfl,Hd (fH.out.chg dI (fun e=>hmb.2 e.symm) fun e=>hmb.1 e.symm),HM9,Hd ?_,Hd (fC.out.step (by rw [aN]; exact fun h=>by cases h) hlk (fun x hx=>QE _ _ hx) ((Qa _ _ _).trans (by rw [HH.out.2]; rfl))),bu.trans dI fun _ _ h=>h⟩
      have h1:=bI.out.chg dI (fun b hb _=>hb) fun b hb e=>by
       subst hb;obtain ⟨cs,t,fr,hh⟩:=bI.out.o.Re e;obtain ⟨es,cl,h2,_⟩:=(dJ.out.chg aX.out fun h=>h).chg cZ fun e=>(dQ.out _ e).1 rfl;rw [h2] at hh;cases hh
      have e1:(dn++[k]).flatMap (Q4 old nw ax tl)=dn.flatMap (Q4 old nw ax tl)++[⟨ax k,0,1⟩]:=by
       rw [List.flatMap_append];simp [Q4,HH.out.1,HH.out.2]
      rw [e1];exact h1
     case measure =>
      have hmb:mb≠rb/\mb≠bb:=⟨by have:=HM.out.lt; have:=aO.out.size; omega,mE.out⟩
      rw [aD.out.2,(fH.out.chg dI (fun e=>hmb.2 e.symm) fun e=>hmb.1 e.symm).left_eq];exact aD.out.1
    ·have hnl:(((nw k).length:Int)==0)=false:=by
      have:(nw k).length≠0:=fun e=>hn (List.eq_nil_of_length_eq_zero e);rw [beq_eq_false_iff_ne];omega
     have HH:=Hd (And.intro ho hn);clear ho hn
     go_wp2_with (at_lookup; go_loud (refine WY (dJ.out.chg ((Chg.refl (fun _=>False) w6).alloc _) fun h=>h) rfl _ _ rfl underlying426 underlying9 (Xg _) k _ bQ rfl rfl ?_))
     obtain ⟨ww,gQ⟩:∃ x,x=((w6.alloc (.cells #[.slice aZ (QQ ks q.1).length bg,.slice IA (nw k).length ic,.slice TA told.length tcp] 431)).alloc (.cells #[.slice XA fD.length xc,.slice OA (old k).length oc,.slice YA (ax k).length yc] 431)):=⟨_,rfl⟩
     rw [<- gQ]
     have kI:(ww.heap[w6.heap.size]? = some (.cells #[.slice aZ (QQ ks q.1).length bg,.slice IA (nw k).length ic,.slice TA told.length tcp] 431 (0,0))/\ww.heap[w6.heap.size+1]? = some (.cells #[.slice XA fD.length xc,.slice OA (old k).length oc,.slice YA (ax k).length yc] 431 (0,0)))/\Chg (fun _=>False) w6 ww/\ww.heap.size=w6.heap.size+2:=by
      subst gQ;exact ⟨Qw (Chg.refl _ _),((Chg.refl _ _).alloc _).alloc _,by show ((w6.heap.push _).push _).size=_; rw [Array.size_push,Array.size_push]⟩
     obtain ⟨⟨hgb,bF⟩,hcW,hszW⟩:=kI;have HOW:=Hd (iZ.out.chg hcW (fun _ h=>h.elim) fun _ h=>h.elim);have dP:=Hd hszW;have aX:=Hd hcW;have kD:=Hd hgb;clear gQ hszW bQ;obtain ⟨_,_,uK⟩:=Z6 bF;have dW:(ww.drew).cell? ⟨w6.heap.size+1,2,none⟩=some (.slice YA (ax k).length yc):=uK;refine Zh [2] (S:=fun wx=>wx.cell? ⟨(w6.heap.size+1),2,none⟩=some (.slice YA (ax k).length yc)) (by kernel_rfl) dW (fun hHeld => ?_);refine tkP 0 (some 47) ?_;refine tkP 1 (some 48) ?_;refine tkG 2 (some 49) ?_;refine Zg (rs:=[3]) (by kernel_rfl) (by simp) ?_;refine Zc.cons rfl (fun K hK => ?_) Zc.nil;go_simp;refine (gM _).mono ?_;rintro _ dX ⟨rfl,kQ⟩;have gW:=kQ.cell dW (fun h=>h);refine hK.out _ _ ?_ ?_
     ·(intro _; exact gW)
     clear hK K
     try simp only [Act.put,List.setIfInBounds_toArray,List.set_cons_zero,List.set_cons_succ]
     refine tkP 4 (some 51) ?_;refine Zg (rs:=[5]) (by kernel_rfl) (by simp) ?_;refine Zc.cons rfl (fun K hK => ?_) Zc.nil;go_simp;have gX:(dX.alloc (.cells #[.slice YA (ax k).length yc,.complex .f64 (fl 0) (fl 1)] 59)).cell? ⟨(w6.heap.size+1),2,none⟩=some (.slice YA (ax k).length yc):=((Chg.refl (fun _=>False) dX).alloc _).cell gW (fun h=>h);refine hK.out _ _ ?_ ?_
     ·(intro _; exact gX)
     clear hK K
     try simp only [Act.put,List.setIfInBounds_toArray,List.set_cons_zero,List.set_cons_succ]
     refine Zg (rs:=[6]) (by kernel_rfl) (by simp) ?_;refine Zc.cons rfl (fun K hK => ?_) Zc.nil;have o6:=Hd (X5 dX (.slice YA (ax k).length yc) (.complex .f64 (fl 0) (fl 1)) 59);have aW:Chg (fun _=>False) ww dX:=((Chg.refl (fun _=>False) ww).drew).trans kQ fun _ _ h=>h;have gY:=Hd (HOW.out.o.chg (aW.alloc (.cells #[.slice YA (ax k).length yc,.complex .f64 (fl 0) (fl 1)] 59)) fun _ _ h=>h);refine J6 rfl _ _ 44 44 rfl 59 2 40 VK own _ L c 1 (ZD ps) [.slice YA (ax k).length yc,.complex .f64 (fl 0) (fl 1)] _ rfl rfl gY.out (X4.slice o6.out) (by simp [Value.oneCell']) (L+1) rfl ?_ ?_ ?_
     ·have:=HOW.out.len; have:=HOW.out.few; omega
     ·have:=HOW.out.len; have:=HOW.out.few; omega
     intro cK Ba ca va dK dY aS;have o7:=Hd dK;clear dK;have gZ:∀ b,own=some b->b≠(w6.heap.size+1):=fun b hb=>(by have:=HOWN.out b hb; omega)
     have ib:=aS.cell gX (fun h=>gZ _ h rfl);go_simp;refine hK.out _ _ ?_ ?_
     ·(intro _; exact ib)
     clear hK K
     try simp only [Act.put,List.setIfInBounds_toArray,List.set_cons_zero,List.set_cons_succ]
     refine tkP 7 (some 9) ?_;refine Zr (by kernel_rfl) ?_ _
     have kR:(ax k).length<=1000000:=by
      have h1:=(bH.out.r q HQ.out.1).1;rw [<- HQ.out.2.1] at h1;have:=Xf (h1 HH.out.1);omega
     have dV:=aW.size;have bI:=Hd (HOW.out.push (x:=⟨ax k,0,1⟩) (aW.alloc (.cells #[.slice YA (ax k).length yc,.complex .f64 (fl 0) (fl 1)] 59)) o7.out dY (Nat.le_trans (show w4.heap.size<=dX.heap.size by have:=dP.out; omega) ((Chg.refl (fun _=>False) dX).alloc _).size) aS ⟨((zK.out.mono fun b hb _=>hb.1).Zf aX.out).Zf (aW.alloc _),Nat.zero_le _,(show 1<=1125899906842624 by decide),kR⟩ (by have:=gP.out; omega));have cZ:Chg (fun b=>own=some b) ww va:=((aW.alloc _).mono fun _ _ h=>h.elim).trans aS fun _ _ h=>h;have fF:=cZ.heap hgb fun e=>by have:=HOWN.out _ e; omega
     have hpw:p<w.heap.size:=World.block_lt_of_cell? w _ HF.out.c2
     have kS:va.cell? ⟨p,2,none⟩=some (.map (some mb)):=cZ.cell (aX.out.cell hp2 fun h=>h) fun e=>by
      have h1:w4.heap.size<=p:=iZ.out.n _ e;have h2:=aO.out.size;omega
     have fG:Qx va mb dH:=(dJ.out.chg aX.out fun h=>h).chg cZ fun e=>(dQ.out _ e).1 rfl;have fH:=Hd ((HI2.out.chg aX.out (fun h=>h) fun h=>h).chg cZ (fun e=>(dQ.out _ e).2.2 rfl) fun e=>(dQ.out _ e).2.1 rfl);have bu:Chg (fun i=>i=mb) w4 va:=(((kH.out.trans aX.out fun _ _ h=>h.elim).mono (T':=fun i=>i=mb\/w4.heap.size<=i) fun i hi h=>by omega).trans cZ fun i hi e => .inr (iZ.out.n _ e)).mono fun i hi h=>by omega
     have ig:∀ b,cK=some b->b≠w6.heap.size:=fun b hb=>by
      rcases dY with e | e
      ·rw [e] at hb; have:=HOWN.out b hb; omega
      ·rw [e] at hb; injection hb with hb; have h8:=((Chg.refl (fun _=>False) dX).alloc (.cells #[.slice YA (ax k).length yc,.complex .f64 (fl 0) (fl 1)] 59)).size; have:=dP.out; omega
     have ik:=cZ.size
     have il:∀ b,cK=some b->b≠mb/\b≠rb/\b≠bb:=fun b hb=>by
      obtain ⟨cs,t,fr,hh⟩:=bI.out.o.Re hb;have h1:=fH.out.Fy hh;refine ⟨fun e => ?_,h1.1,h1.2⟩;obtain ⟨es,cl,h2,_⟩:=fG;rw [e,h2] at hh;cases hh
     have fB:p<va.heap.size:=by have:=dP.out; omega
     have oM:w6.heap.size<va.heap.size:=by have:=dP.out; omega
     have mG:=Hd (And.intro cZ (And.intro bu (And.intro ig il)));clear il aW kQ o7 dY aS o6 gY gZ ib dW hgb bF hpw ig bu cZ ik dV hp2;obtain ⟨d0,d1,d2⟩:=Z6 fF
     go_wp2_with fail
     have oK:=bI;have HIS:=fH;have HAS:=Hd (And.intro mG.out.2.2.2 mG.out.2.2.1);have gT:=Hd mG.out.2.1;have kJ:=Hd (((zJ.out.mono (G:=fun b=>(b<w4.heap.size/\b≠mb)/\b<w4.heap.size) fun b hb _=>⟨hb.1,hb.1.1⟩).Zf aX.out).chg mG.out.1 fun b hb _ e=>by have:=iZ.out.n _ e; omega);have oL:=fF;have s0:(va.drew).cell? ⟨p,2,none⟩=some (.map (some mb)):=kS;have oN:(va.drew).heap[w6.heap.size]? = some (.cells #[.slice aZ (QQ ks q.1).length bg,.slice IA (nw k).length ic,.slice TA told.length tcp] 431 (0,0)):=fF;obtain ⟨s1,s2,s3⟩:=Z6 oN;have oO:Qx (va.drew) mb dH:=fG;refine Zh [3,5] (S:=fun wx=>wx.cell? ⟨p,2,none⟩=some (.map (some mb))/\wx.cell? ⟨w6.heap.size,0,none⟩=some (.slice aZ (QQ ks q.1).length bg)/\wx.cell? ⟨w6.heap.size,1,none⟩=some (.slice IA (nw k).length ic)/\wx.cell? ⟨w6.heap.size,2,none⟩=some (.slice TA told.length tcp)) (by kernel_rfl) ⟨s0,s1,s2,s3⟩ (fun hHeld => ?_);refine tkP 0 (some 63) ?_;refine tkP 1 (some 64) ?_;refine tkP 2 (some 65) ?_;refine tkG 3 (some 66) ?_;refine tkP 4 (some 67) ?_;refine tkG 5 (some 68) ?_;refine Zg (rs:=[6]) (by kernel_rfl) (by simp) ?_;refine Zc.ZW rfl (by kernel_rfl) (fun K hK => ?_) Zc.nil;refine Ps oO rfl _ _ _ rfl underlying426 underlying9 k (.agg #[.slice aZ (QQ ks q.1).length bg,.slice IA (nw k).length ic,.slice TA told.length tcp]) rfl rfl rfl ?_;intro w8 oP hc8 uE;refine hK.out _ _ ?_;clear hK K
     try simp only [Act.put,List.setIfInBounds_toArray,List.set_cons_zero,List.set_cons_succ]
     refine Zr (by kernel_rfl) ?_ _;have cz:Chg (fun i=>i=mb) va w8:=((Chg.refl _ va).drew).trans hc8 fun _ _ h=>h;have gU:mb≠w6.heap.size:=by have:=HM.out.lt; have:=aO.out.size; omega
     have dU:=Hd (oK.out.chg cz (fun b hb _=>hb) fun b hb e=>(HAS.out.1 b e).1 hb);have kK:=cz.heap oL fun e=>gU e.symm;obtain ⟨_,_,oQ⟩:=Z6 kK;have kT:(w8.drew).cell? ⟨w6.heap.size,2,none⟩=some (.slice TA told.length tcp):=oQ;have uF:=Hd oP;have gV:=Hd cz;have uG:w6.heap.size<w8.heap.size:=lt_of_block kK;clear oP hc8 uE kK oO oN s0 s1 s2 s3 oL cz;have oU:=HAS.out.2
     go_wp2_with fail
     refine Zh [2] (S:=fun wx=>wx.cell? ⟨w6.heap.size,2,none⟩=some (.slice TA told.length tcp)) (by kernel_rfl) kT (fun hHeld => ?_);refine tkP 0 (some 69) ?_;refine tkP 1 (some 70) ?_;refine tkG 2 (some 71) ?_;refine Zg (rs:=[3]) (by kernel_rfl) (by simp) ?_;refine Zc.cons rfl (fun K hK => ?_) Zc.nil;go_simp;refine (gL _).mono ?_;rintro _ mH ⟨rfl,uL⟩;have kU:=uL.cell kT (fun h=>h);refine hK.out _ _ ?_ ?_
     ·(intro _; exact kU)
     clear hK K
     try simp only [Act.put,List.setIfInBounds_toArray,List.set_cons_zero,List.set_cons_succ]
     refine tkP 4 (some 73) ?_;refine Zg (rs:=[5]) (by kernel_rfl) (by simp) ?_;refine Zc.cons rfl (fun K hK => ?_) Zc.nil;go_simp;have kV:(mH.alloc (.cells #[.slice TA told.length tcp,.complex .f64 (fl 1) (fl 0)] 59)).cell? ⟨w6.heap.size,2,none⟩=some (.slice TA told.length tcp):=((Chg.refl (fun _=>False) mH).alloc _).cell kU (fun h=>h);refine hK.out _ _ ?_ ?_
     ·(intro _; exact kV)
     clear hK K
     try simp only [Act.put,List.setIfInBounds_toArray,List.set_cons_zero,List.set_cons_succ]
     refine Zg (rs:=[6]) (by kernel_rfl) (by simp) ?_;refine Zc.cons rfl (fun K hK => ?_) Zc.nil;have zO:=Hd (X5 mH (.slice TA told.length tcp) (.complex .f64 (fl 1) (fl 0)) 59);have fI:Chg (fun _=>False) w8 mH:=((Chg.refl (fun _=>False) w8).drew).trans uL fun _ _ h=>h;have o8:=Hd (dU.out.o.chg (fI.alloc (.cells #[.slice TA told.length tcp,.complex .f64 (fl 1) (fl 0)] 59)) fun _ _ h=>h);refine J6 rfl _ _ 44 44 rfl 59 2 40 VK cK _ (L+1) ca 1 (ZD (ps++[(.slice YA (ax k).length yc,⟨ax k,0,1⟩)])) [.slice TA told.length tcp,.complex .f64 (fl 1) (fl 0)] _ rfl rfl o8.out (X4.slice zO.out) (by simp [Value.oneCell']) ((L+1)+1) rfl ?_ ?_ ?_
     ·have:=dU.out.len; have:=dU.out.few; omega
     ·have:=dU.out.len; have:=dU.out.few; omega
     intro uM Bb cb vb jI o9 eY;have zP:=Hd jI;clear jI;have pg:∀ b,cK=some b->b≠w6.heap.size:=fun b hb=>(HAS.out.2 b hb)
     have pq:=eY.cell kV (fun h=>pg _ h rfl);go_simp;refine hK.out _ _ ?_ ?_
     ·(intro _; exact pq)
     clear hK K
     try simp only [Act.put,List.setIfInBounds_toArray,List.set_cons_zero,List.set_cons_succ]
     refine tkP 7 (some 9) ?_;refine Zr (by kernel_rfl) ?_ _
     have htl:told=tl k:=by
      rw [jG.out];have:(nw k).isEmpty=false:=by simpa using HH.out.2
      rw [this]; rfl
     have kP:told.length<=1000000:=by
      have h1:=(bH.out.r q HQ.out.1).2;rw [<- HQ.out.2.1] at h1;have:=Xf (h1 HH.out.2);rw [htl];omega
     have dV:=fI.size;have uJ:=Hd (dU.out.push (x:=⟨told,1,0⟩) (fI.alloc (.cells #[.slice TA told.length tcp,.complex .f64 (fl 1) (fl 0)] 59)) zP.out o9 (Nat.le_trans (show w4.heap.size<=mH.heap.size by have:=dU.out.o; have:=gT.out.size; have:=gV.out.size; omega) ((Chg.refl (fun _=>False) mH).alloc _).size) eY ⟨((kJ.out.mono fun b hb _=>hb.1).chg gV.out fun b hb _ h=>hb.2 h).Zf (fI.alloc _),(show 1<=1125899906842624 by decide),Nat.zero_le _,kP⟩ (by rw [List.length_append,List.length_singleton]; have:=gP.out; omega));have o5:Chg (fun b=>cK=some b) w8 vb:=((fI.alloc _).mono fun _ _ h=>h.elim).trans eY fun _ _ h=>h;have ja:=Hd o5;clear fI uL zP o9 eY zO o8 pg pq kT kU kV o5 dV gU oQ
     go_wp2_with fail
     go_roundw
     case rel =>
      have hmb:mb≠rb/\mb≠bb:=⟨by have:=HM.out.lt; have:=aO.out.size; omega,mE.out⟩
      obtain ⟨hq,hkq,hlk,aN⟩:=HQ.out;refine ⟨_,cnt2,uM,Bb,(L+1)+1,cb,((ps++[(.slice YA (ax k).length yc,⟨ax k,0,1⟩)])++[(.slice TA told.length tcp,⟨told,1,0⟩)]),dn++[k],_,rfl,Hd ((HIS.out.chg gV.out (fun e=>hmb.2 e.symm) fun e=>hmb.1 e.symm).chg ja.out (fun e=>(HAS.out.1 _ e).2.2 rfl) fun e=>(HAS.out.1 _ e).2.1 rfl),Hd (uF.out.chg ja.out fun e=>(HAS.out.1 _ e).1 rfl),Hd ?_,Hd (fC.out.step (by rw [aN]; exact fun h=>by cases h) hlk (fun x hx=>QE _ _ hx) ((Qa _ _ _).trans ?_)),((gT.out.trans gV.out fun _ _ h=>h).mono (T':=fun i=>i=mb\/w4.heap.size<=i) (fun i hi h => .inl h) |>.trans ja.out fun i hi e => .inr (oK.out.n _ e)).mono fun i hi h=>by omega⟩
      ·have e1:(dn++[k]).flatMap (Q4 old nw ax tl)=(dn.flatMap (Q4 old nw ax tl)++[⟨ax k,0,1⟩])++[⟨told,1,0⟩]:=by
        rw [List.flatMap_append,htl];simp [Q4,HH.out.1,HH.out.2]
       rw [e1];exact uJ.out
      ·have:(nw k).isEmpty=false:=by simpa using HH.out.2
       rw [this,aN];rfl
     case measure =>
      have hmb:mb≠rb/\mb≠bb:=⟨by have:=HM.out.lt; have:=aO.out.size; omega,mE.out⟩
      rw [aD.out.2,((HIS.out.chg gV.out (fun e=>hmb.2 e.symm) fun e=>hmb.1 e.symm).chg ja.out (fun e=>(HAS.out.1 _ e).2.2 rfl) fun e=>(HAS.out.1 _ e).2.1 rfl).left_eq];exact aD.out.1
end
section
open Go.RowKit
abbrev ZS:=List (List Vl×Int)
def ZH (ks:List Nat) (I:ZS) (k:List UInt8):ZS:=I.filter fun p=>decide (nmR ks p.1=k)
def Kf (f:ByteArray×Nat) (l:List Itm):Vl :=
 if f.1=X9 then ⟨1,Zq l,[]⟩ else if f.1=Ng then ⟨1,Qy f.2 l,[]⟩ else if f.1=Nh then bst Vl.less (QZ f.2 l) else bst Vl.more (QZ f.2 l)
def ZV (ks:List Nat) (fs:List (ByteArray×Nat)) (I:ZS) (k:List UInt8):List Vl:=match ZH ks I k with
 | []=>[]
 | p::l=>QQ ks p.1++fs.map fun f=>Kf f (Zj (p::l))
def Zdo (r:List Vl):Prop:=∀ v∈r,VN v
structure FIn (ks:List Nat) (fs:List (ByteArray×Nat)) (I:ZS):Prop where
 sm:Sm I
 pos:∀ p∈I,0<p.2
 rn:∀ p∈I,Zdo p.1
 su:∀ p∈I,Y0 ks fs p.1
 few:Zq (Zj I)<=40
 big:∀ p∈I,∀ v∈p.1,-1000<=v.n/\v.n<=1000
theorem ZI {ks:List Nat} {I:ZS} {k:List UInt8} {p:List Vl×Int}:p∈ZH ks I k↔p∈I/\nmR ks p.1=k:=by
 unfold ZH;rw [List.mem_filter,decide_eq_true_iff]
theorem ZP.filter {I:ZS} (h:ZP I) (f:List Vl×Int->Bool):ZP (I.filter f) where
 row:=fun p hp=>h.row p ((List.mem_filter.1 hp).1)
 net:=fun p hp=>h.net p ((List.mem_filter.1 hp).1)
 ord:=h.ord.filter f
theorem Pv (f:List Vl×Int->Bool):∀ I:ZS,ZN (Zj (I.filter f))<=ZN (Zj I)
 | []=>Nat.le_refl _
 | p::I=>by
  have ih:=Pv f I;rw [List.filter_cons];split
  ·simp only [Zj,List.map_cons,ZN] at ih ⊢;omega
  ·simp only [Zj,List.map_cons,ZN] at ih ⊢;omega
theorem Sm.filter {I:ZS} (h:Sm I) (f:List Vl×Int->Bool):Sm (I.filter f) :=
 ⟨h.set.filter f,Nat.le_trans (List.length_filter_le _ _) h.few,Nat.le_trans (Pv f I) h.sum⟩
theorem Wy (p:List Vl×Int):(ZB p).net=p.2:=by
 simp only [ZB,Itm.net];omega
theorem Y1 (f:List Vl×Int->Bool):∀ {I:ZS},(∀ p∈I,0<p.2)->Zq (Zj (I.filter f))<=Zq (Zj I)
 | [],_=>Int.le_refl _
 | p::I,h=>by
  have ih:=Y1 f fun q hq=>h q (List.mem_cons_of_mem _ hq);have hp:=h p List.mem_cons_self;have hn:=Wy p;rw [List.filter_cons];split
  ·simp only [Zj,List.map_cons,Zq] at ih ⊢;omega
  ·simp only [Zj,List.map_cons,Zq] at ih ⊢;omega
theorem Hy (f:List Vl×Int->Bool) (g:List Vl->Bool) (hfg:∀ p,f p=g p.1) (r:List Vl):∀ I:ZS,nf (I.filter f) r=if g r then nf I r else 0
 | []=>by simp [nf]
 | p::I=>by
  have ih:=Hy f g hfg r I;rw [List.filter_cons,hfg];by_cases hpr:p.1=r
  ·subst hpr;cases hg:g p.1
   ·rw [hg] at ih;simp only [Bool.false_eq_true,if_false] at ih ⊢;exact ih
   ·rw [hg] at ih;simp only [if_true] at ih ⊢;rw [nf,nf,ih]
  ·cases hg:g p.1
   ·simp only [Bool.false_eq_true,if_false];rw [ih,nf,if_neg hpr];simp
   ·simp only [if_true];rw [nf,nf,if_neg hpr,ih];simp
theorem KZ (ks:List Nat) (I:ZS) (k:List UInt8) (r:List Vl):nf (ZH ks I k) r=if nmR ks r=k then nf I r else 0:=by
 have h:=Hy (fun p=>decide (nmR ks p.1=k)) (fun r=>decide (nmR ks r=k)) (fun _=>rfl) r I;unfold ZH;rw [h];simp
section
variable {ks:List Nat} {fs:List (ByteArray×Nat)} {I:ZS} (h:FIn ks fs I)
include h
theorem FIn.WZ (k:List UInt8):Sm (ZH ks I k):=h.sm.filter _
theorem FIn.Mf (k:List UInt8):Few (ZH ks I k) :=
 ⟨(h.WZ k).few,fun p hp=>Int.le_of_lt (h.pos p (ZI.1 hp).1),Int.le_trans (Y1 _ h.pos) h.few⟩
theorem FIn.key {p q:List Vl×Int} (hp:p∈I) (hq:q∈I) (e:nmR ks p.1=nmR ks q.1):QQ ks p.1=QQ ks q.1 :=
 WR (by simp [QQ]) (fun v hv=>h.rn p hp v (Ky (h.su p hp).2.1 hv)) (fun v hv=>h.rn q hq v (Ky (h.su q hq).2.1 hv)) e
theorem FIn.tell {p:List Vl×Int} (hp:p∈I):ZV ks fs I (nmR ks p.1)=QQ ks p.1++fs.map fun f=>Kf f (Zj (ZH ks I (nmR ks p.1))):=by
 unfold ZV;split
 ·rename_i e;have:p∈ZH ks I (nmR ks p.1):=ZI.2 ⟨hp,rfl⟩;rw [e] at this;cases this
 ·rename_i q l e;have hq:=ZI.1 (by rw [e]; exact List.mem_cons_self:q∈ZH ks I (nmR ks p.1));rw [h.key hq.1 hp hq.2,e]
end
theorem Hz (c:Nat):∀ {S:ZS},(∀ p∈S,0<=p.2)->(∀ p∈S,∀ v∈p.1,-1000<=v.n/\v.n<=1000) -> -1000*Zq (Zj S)<=Qy c (Zj S)/\Qy c (Zj S)<=1000*Zq (Zj S)
 | [],_,_=>by simp [Zj,Zq,Qy]
 | p::S,h,hb=>by
  have ih:=Hz c (S:=S) (fun q hq=>h q (List.mem_cons_of_mem _ hq)) fun q hq=>hb q (List.mem_cons_of_mem _ hq);have hp:=h p List.mem_cons_self
  have hv : -1000<=(p.1[c]?.getD ⟨0,0,[]⟩).n/\(p.1[c]?.getD ⟨0,0,[]⟩).n<=1000:=by
   cases hc:p.1[c]? with
   | none=>simp
   | some v=>exact hb p List.mem_cons_self v (List.mem_of_getElem? hc)
  have h1:=Int.mul_le_mul_of_nonneg_left hv.1 hp;have h2:=Int.mul_le_mul_of_nonneg_left hv.2 hp;have hn:=Wy p;show -1000*((ZB p).net+Zq (Zj S))<=(ZB p).net*((ZB p).row[c]?.getD ⟨0,0,[]⟩).n+Qy c (Zj S)/\(ZB p).net*((ZB p).row[c]?.getD ⟨0,0,[]⟩).n+Qy c (Zj S)<=1000*((ZB p).net+Zq (Zj S));rw [hn];have e:(ZB p).row=p.1:=rfl;rw [e];omega
theorem HJ (S:ZS) (n:Nat):(Zj S).take n=Zj (S.take n):=by simp [Zj]
theorem Rf {S:ZS} {x:Itm} (h:x∈Zj S):∃ p∈S,x.row=p.1:=by
 obtain ⟨p,hp,rfl⟩:=List.mem_map.1 h;exact ⟨p,hp,rfl⟩
theorem Zbn {f:ByteArray×Nat} {S:ZS} (hne:S≠[]) (hF:Few S) (hg:∀ p∈S,GOk p.1 f) (hr:∀ p∈S,Zi p.1=true) (hb:∀ p∈S,∀ v∈p.1,-1000<=v.n/\v.n<=1000) {F:Nat->Prop} {W:World} {lv:Value} (h:Zp F W lv (Zj S)) :
  Calls prog 490 #[.agg #[.string f.1,.int .i64 (f.2:Int)],lv] W fun e W'=>e = .returned (.tuple #[(Kf f (Zj S)).val,.bool true])/\Chg (fun _=>False) W W':=by
 obtain ⟨nm,c⟩:=f;obtain ⟨p,hp⟩:=List.exists_mem_of_ne_nil _ hne;have hlen:(Zj S).length<=4096:=by rw [Zu]; have:=hF.1; omega
 have hsum:∀ n,Zq ((Zj S).take n)<=40/\0<=Zq ((Zj S).take n):=fun n=>by
  have h1:=Sk hF.net n;have h2:=hF.2.2;exact ⟨by omega,h1.1⟩
 have hgp:=hg p hp
 have hlong:∀ x∈Zj S,∀ v∈x.row,v.s.length<=9223372036854775807:=fun x hx v hv=>by
  obtain ⟨q,hq,e⟩:=Rf hx;rw [e] at hv;have:=WX (Q0 (hr q hq) v hv);omega
 by_cases h1:nm=X9
 ·subst h1;have e:Kf (X9,c) (Zj S)=⟨1,Zq (Zj S),[]⟩:=if_pos rfl;rw [e];exact Cm (c:Int) h hlen fun n _=>by have:=hsum n; omega
 ·by_cases h2:nm=Ng
  ·subst h2;have e:Kf (Ng,c) (Zj S)=⟨1,Qy c (Zj S),[]⟩:=by unfold Kf; rw [if_neg h1,if_pos rfl]
   rw [e];refine Zbk h hlen (fun x hx => ?_) fun n _ => ?_
   ·obtain ⟨q,hq,e⟩:=Rf hx;rcases hg q hq with h3 | ⟨_,v,hv,_⟩ | ⟨h3 | h3,_⟩
    ·exact absurd h3 h1
    ·rw [e];have:=hb q hq v (List.mem_of_getElem? hv);exact ⟨v,hv,by omega,by omega⟩
    ·exact absurd (show Ng=Nh from h3) (by decide)
    ·exact absurd (show Ng=Hw from h3) (by decide)
   ·rw [HJ];have h3:=Hz c (S:=S.take n) (fun q hq=>hF.2.1 q (List.mem_of_mem_take hq)) fun q hq=>hb q (List.mem_of_mem_take hq);have h4:=hsum n;rw [HJ] at h4;show -1000000<=Qy c (Zj (S.take n))/\Qy c (Zj (S.take n))<=1000000;omega
  ·have kW:c<p.1.length/\(nm=Nh\/nm=Hw):=by
    rcases hgp with h3 | ⟨h3,_⟩ | ⟨h3,h4⟩
    ·exact absurd h3 h1
    ·exact absurd h3 h2
    ·exact ⟨h4,h3⟩
   have hrow:∀ x∈Zj S,c<x.row.length:=fun x hx=>by
    obtain ⟨q,hq,e⟩:=Rf hx;rw [e];rcases hg q hq with h3 | ⟨h3,_⟩ | ⟨h3,h4⟩
    ·exact absurd h3 h1
    ·exact absurd h3 h2
    ·exact h4
   by_cases h3:nm=Nh
   ·subst h3;have e:Kf (Nh,c) (Zj S)=bst Vl.less (QZ c (Zj S)):=by unfold Kf; rw [if_neg h1,if_neg h2,if_pos rfl]
    rw [e];exact Zbi h hlen hrow hlong
   ·have h4:nm=Hw:=by
     rcases kW.2 with h | h
     ·exact absurd h h3
     ·exact h
    subst h4;have e:Kf (Hw,c) (Zj S)=bst Vl.more (QZ c (Zj S)):=by unfold Kf; rw [if_neg h1,if_neg h2,if_neg h3]
    rw [e];exact Zbj h hlen hrow hlong
theorem EX {lt:Vl->Vl->Bool}:∀ {l:List Vl},l≠[]->bst lt l∈l
 | [],h=>absurd rfl h
 | x::l,_=>by
  show (l.foldl (fun b v=>if lt v b then v else b) x)∈x::l
  have key:∀ (l:List Vl) (b:Vl),(l.foldl (fun b v=>if lt v b then v else b) b)∈b::l:=by
   intro l
   induction l with
   | nil=>intro b; exact List.mem_cons_self
   | cons y l ih =>
    intro b;rw [List.foldl_cons];by_cases hc:lt y b=true
    ·rw [if_pos hc];rcases List.mem_cons.1 (ih y) with h2 | h2
     ·rw [h2]; exact List.mem_cons_of_mem _ List.mem_cons_self
     ·exact List.mem_cons_of_mem _ (List.mem_cons_of_mem _ h2)
    ·rw [if_neg hc];rcases List.mem_cons.1 (ih b) with h2 | h2
     ·rw [h2]; exact List.mem_cons_self
     ·exact List.mem_cons_of_mem _ (List.mem_cons_of_mem _ h2)
  exact key l x
theorem Nn {f:ByteArray×Nat} {S:ZS} (hne:S≠[]) (hg:∀ p∈S,GOk p.1 f) (hr:∀ p∈S,Zi p.1=true):(Kf f (Zj S)).right=true:=by
 obtain ⟨nm,c⟩:=f;unfold Kf;split
 ·rfl
 ·split
  ·rfl
  ·rename_i h1 h2
   have kW:∀ p∈S,c<p.1.length:=fun p hp=>by
    rcases hg p hp with h3 | ⟨h3,_⟩ | ⟨h3,h4⟩
    ·exact absurd h3 h1
    ·exact absurd h3 h2
    ·exact h4
   have hc:∀ v∈QZ c (Zj S),v.right=true:=fun v hv=>by
    obtain ⟨x,hx,rfl⟩:=List.mem_map.1 hv;obtain ⟨q,hq,e⟩:=Rf hx;rw [e,List.getElem?_eq_getElem (kW q hq)];exact Q0 (hr q hq) _ (List.getElem_mem _)
   have hn:QZ c (Zj S)≠[]:=fun e=>hne (by rw [Si] at e; simpa [Zj] using e);split
   ·exact hc _ (EX hn)
   ·exact hc _ (EX hn)
end
section
open Go.RowKit
structure Wz (ks:List Nat) (fs:List (ByteArray×Nat)) (I:ZS) (F:Nat->Prop) (w:World) (f:List UInt8->Option Value):Prop where
 to:∀ k v,f k=some v->∃ p∈I,k=nmR ks p.1/\Je w F v (QQ ks p.1) (ZH ks I k) (ZV ks fs I k)
 of:∀ p∈I,f (nmR ks p.1)≠none
theorem Je.move {w w':World} {G:Nat->Prop} {v:Value} {key:List Vl} {S:List (List Vl×Int)} {told:List Vl} (h:Je w G v key S told) (hs:w.heap.size<=w'.heap.size) (hb:∀ k,G k->k<w.heap.size->w'.heap[k]? = w.heap[k]?):Je w' G v key S told:=by
 obtain ⟨kv,iv,tv,e,h1,h2,h3⟩:=h.ex;exact ⟨kv,iv,tv,e,h1.move hs hb,h2.move hs hb,h3.move hs hb⟩
theorem Wz.move {ks:List Nat} {fs:List (ByteArray×Nat)} {I:ZS} {F:Nat->Prop} {w w':World} {f:List UInt8->Option Value} (h:Wz ks fs I F w f) (hs:w.heap.size<=w'.heap.size) (hb:∀ k,F k->k<w.heap.size->w'.heap[k]? = w.heap[k]?):Wz ks fs I F w' f :=
 ⟨fun k v hv=>by
  obtain ⟨p,hp,e,h1⟩:=h.to k v hv
  exact ⟨p,hp,e,h1.move hs hb⟩,h.of⟩
theorem Wz.mono {ks:List Nat} {fs:List (ByteArray×Nat)} {I:ZS} {F G:Nat->Prop} {w:World} {f:List UInt8->Option Value} (h:Wz ks fs I F w f) (hn:∀ b,F b->b<w.heap.size->G b):Wz ks fs I G w f :=
 ⟨fun k v hv=>by
  obtain ⟨p,hp,e,h1⟩:=h.to k v hv
  exact ⟨p,hp,e,h1.mono hn⟩,h.of⟩
def X1 (ks:List Nat) (fs:List (ByteArray×Nat)) (I:ZS) (F:Nat->Prop) (w:World) (o:Obj):Prop:=∃ es clock f,o = .map es clock/\Wi es clock f/\Wz ks fs I F w f
theorem X1.empty (ks:List Nat) (fs:List (ByteArray×Nat)) (F:Nat->Prop) (w:World) (c:Nat):X1 ks fs [] F w (.map #[] c) :=
 ⟨#[],c,fun _=>none,rfl,Wi.empty c,fun k v h=>(by cases h),fun p h=>(by cases h)⟩
structure Ts (ks:List Nat) (fs:List (ByteArray×Nat)) (I D I' O:ZS):Prop where
 i:FIn ks fs I
 i':FIn ks fs I'
 n0:0<ks.length+fs.length
 n6:ks.length+fs.length<=6
 d:Sm D
 dn:∀ p∈D,Zdo p.1
 ds:∀ p∈D,Y0 ks fs p.1
 nd:(D.map fun p=>nmR ks p.1).Nodup
 ad:∀ r,nf I' r=nf I r+nf D r
 KS:∃ KS:List (List UInt8),(∀ p∈I,nmR ks p.1∈KS)/\KS.length+D.length<=12
 o:Sm O
 on:∀ r,nf O r=Qf ((D.map fun p=>nmR ks p.1).flatMap (Q4 (ZH ks I) (ZH ks I') (ZV ks fs I) (ZV ks fs I'))) r
section
variable {ks:List Nat} {fs:List (ByteArray×Nat)} {I D I' O:ZS} (h:Ts ks fs I D I' O)
include h
theorem Ts.one {p:List Vl×Int} (hp:p∈D) (r:List Vl):nf D r=nf [p] r\/nmR ks r≠nmR ks p.1:=by
 by_cases hr:nmR ks r=nmR ks p.1
 ·refine .inl ?_
  have key:∀ {E:ZS},(E.map fun p=>nmR ks p.1).Nodup->p∈E->nf E r=nf [p] r:=by
   intro E
   induction E with
   | nil=>intro _ h; cases h
   | cons q E ih =>
    intro hn hm;obtain ⟨h1,h2⟩:=List.nodup_cons.1 (show (nmR ks q.1::E.map fun p=>nmR ks p.1).Nodup from hn);rcases List.mem_cons.1 hm with rfl | hm
    ·have:nf E r=0:=Yu fun x hx e=>h1 (List.mem_map.2 ⟨x,hx,by rw [e]; exact hr⟩);rw [nf,nf,this];rfl
    ·have hne:q.1≠r:=fun e=>h1 (List.mem_map.2 ⟨p,hm,by rw [e]; exact hr.symm⟩);rw [nf,if_neg hne,ih h2 hm];omega
  exact key h.nd hp
 ·exact .inr hr
theorem Ts.grp {p:List Vl×Int} (hp:p∈D) (r:List Vl):nf (ZH ks I' (nmR ks p.1)) r=nf (ZH ks I (nmR ks p.1)) r+nf [p] r:=by
 rw [KZ,KZ];rcases h.one hp r with e | e
 ·by_cases hr:nmR ks r=nmR ks p.1
  ·rw [if_pos hr,if_pos hr,h.ad,e]
  ·rw [if_neg hr,if_neg hr,nf,if_neg fun e=>hr (by rw [e])];rfl
 ·rw [if_neg e,if_neg e,nf,if_neg fun e2=>e (by rw [e2])];rfl
theorem Ts.same {k:List UInt8} (hk:∀ p∈D,k≠nmR ks p.1):ZH ks I' k=ZH ks I k:=by
 refine ZP.uniq (h.i'.WZ k).set (h.i.WZ k).set fun r => ?_;rw [KZ,KZ];by_cases hr:nmR ks r=k
 ·have:nf D r=0:=Yu fun x hx e=>hk x hx (by rw [e,hr]);rw [if_pos hr,if_pos hr,h.ad,this];omega
 ·rw [if_neg hr,if_neg hr]
omit h in
theorem Ts.old {p:List Vl×Int} {w:World} {G:Nat->Prop} {f:List UInt8->Option Value} (hF:Wz ks fs I G w f) (hp:p∈D) :
  ∃ x va y key,(f (nmR ks p.1)).getD ZfP = .agg #[x,va,y]/\Zm G w x key/\Zp G w va (Zj (ZH ks I (nmR ks p.1)))/\Zm G w y (ZV ks fs I (nmR ks p.1)):=by
 cases hf:f (nmR ks p.1) with
 | none =>
  have e:ZH ks I (nmR ks p.1)=[]:=by
   refine List.eq_nil_iff_forall_not_mem.2 fun q hq => ?_;obtain ⟨h1,h2⟩:=ZI.1 hq;exact hF.of q h1 (by rw [h2]; exact hf)
  refine ⟨_,_,_,[],rfl,Zm.Xz _ _,?_,?_⟩
  ·rw [e]; exact Zp.Xz _ _
  ·unfold ZV; rw [e]; exact Zm.Xz _ _
 | some v =>
  obtain ⟨q,hq,e,hg⟩:=hF.to _ v hf;obtain ⟨kv,iv,tv,rfl,h1,h2,h3⟩:=hg.ex;exact ⟨kv,iv,tv,_,rfl,h1,h2,h3⟩
theorem Ts.Zio {p q:List Vl×Int} (hp:p∈D) (hq:q∈I') (e:nmR ks q.1=nmR ks p.1):QQ ks q.1=QQ ks p.1 :=
 WR (by simp [QQ]) (fun v hv=>h.i'.rn q hq v (Ky (h.i'.su q hq).2.1 hv)) (fun v hv=>h.dn p hp v (Ky (h.ds p hp).2.1 hv)) e
theorem VL {J:ZS} (hJ:FIn ks fs J) {k:List UInt8} (hne:ZH ks J k≠[]):Zi (ZV ks fs J k)=true:=by
 obtain ⟨q,hq⟩:=List.exists_mem_of_ne_nil _ hne;obtain ⟨h1,h2⟩:=ZI.1 hq;subst h2;rw [hJ.tell h1];have hl:(QQ ks q.1++fs.map fun f=>Kf f (Zj (ZH ks J (nmR ks q.1)))).length=ks.length+fs.length:=by simp [QQ]
 have hr:∀ v∈QQ ks q.1++fs.map (fun f=>Kf f (Zj (ZH ks J (nmR ks q.1)))),v.right=true:=fun v hv=>by
  rcases List.mem_append.1 hv with hv | hv
  ·exact Q0 (hJ.su q h1).2.2 v (Ky (hJ.su q h1).2.1 hv)
  ·obtain ⟨f,hf,rfl⟩:=List.mem_map.1 hv;exact Nn hne (fun x hx=>(hJ.su x (ZI.1 hx).1).1 f hf) fun x hx=>(hJ.su x (ZI.1 hx).1).2.2
 unfold Zi;rw [hl];have h0:=h.n0;have h6:=h.n6
 have:(QQ ks q.1++fs.map fun f=>Kf f (Zj (ZH ks J (nmR ks q.1)))).any (fun x => !x.right)=false:=by
  rw [List.any_eq_false];intro v hv;rw [hr v hv]
  decide
 rw [this];simp;omega
theorem Ts.Zl3 {w:World} {G:Nat->Prop} {f:List UInt8->Option Value} (hF:Wz ks fs I G w f):ZkC w G ks fs f D (ZH ks I) (ZH ks I') (ZV ks fs I) (ZV ks fs I') where
 o:=fun p hp=>Ts.old hF hp
 l:=fun p hp=>by
  unfold nmR nameOf;rw [List.length_append,ZJ];have hk:(QQ ks p.1).length<=6:=by have:=h.n6; simp only [QQ,List.length_map]; omega
  have h1:∀ {r:List Vl},(∀ v∈r,v.s.length<=40)->(r.flatMap KR).length<=r.length*50:=by
   intro r
   induction r with
   | nil=>intro _; simp
   | cons v r ih =>
    intro hr;rw [List.flatMap_cons,List.length_append,List.length_cons];have h2:=ih fun u hu=>hr u (List.mem_cons_of_mem _ hu);have h3:=hr v List.mem_cons_self
    have h4:(KR v).length<=50:=by
     unfold KR;rw [List.length_append,ZJ];split
     ·rw [ZJ]; omega
     ·rw [List.length_append,ZJ]; omega
    omega
  have h2:=h1 fun v hv=>WX (Q0 (h.ds p hp).2.2 v (Ky (h.ds p hp).2.1 hv));omega
 t:=fun p hp hn=>by
  obtain ⟨q,hq⟩:=List.exists_mem_of_ne_nil _ hn;obtain ⟨q1,q2⟩:=ZI.1 hq;refine ⟨fun j=>(fs[j]?.map fun f=>Kf f (Zj (ZH ks I' (nmR ks p.1)))).getD ⟨0,0,[]⟩,fun j => ?_,?_,fun j f hj F W lv hlv => ?_⟩
  ·show ((fs[j]?.map fun f=>Kf f (Zj (ZH ks I' (nmR ks p.1)))).getD ⟨0,0,[]⟩).s.length<=_;cases hj:fs[j]? with
   | none=>exact Nat.zero_le _
   | some f =>
    have:=WX (Nn hn (fun x hx=>(h.i'.su x (ZI.1 hx).1).1 f (List.mem_of_getElem? hj)) fun x hx=>(h.i'.su x (ZI.1 hx).1).2.2);show (Kf f (Zj (ZH ks I' (nmR ks p.1)))).s.length<=_;omega
  ·rw [<- q2,h.i'.tell q1,h.Zio hp q1 q2]
   congr 1
   refine List.ext_getElem? fun j => ?_;rw [List.getElem?_map,List.getElem?_map];by_cases hj:j<fs.length
   ·rw [List.getElem?_range hj,List.getElem?_eq_getElem hj];simp [hj]
   ·rw [List.getElem?_eq_none (by omega),List.getElem?_eq_none (by simp; omega)];rfl
  ·have e:(fs[j]?.map fun f=>Kf f (Zj (ZH ks I' (nmR ks p.1)))).getD ⟨0,0,[]⟩=Kf f (Zj (ZH ks I' (nmR ks p.1))):=by rw [hj]; rfl
   simp only [e];exact Zbn hn (h.i'.Mf _) (fun x hx=>(h.i'.su x (ZI.1 hx).1).1 f (List.mem_of_getElem? hj)) (fun x hx=>(h.i'.su x (ZI.1 hx).1).2.2) (fun x hx=>h.i'.big x (ZI.1 hx).1) hlv
 z:=fun p hp=>⟨h.i.WZ _,by
  have hz:=h.d;refine ⟨⟨fun q hq => ?_,fun q hq => ?_,List.pairwise_singleton _ _⟩,by simp,?_⟩
  ·rw [List.mem_singleton.1 hq]; exact hz.set.row p hp
  ·rw [List.mem_singleton.1 hq]; exact hz.set.net p hp
  ·have h1:=Ct (List.mem_map_of_mem hp:ZB p∈Zj D);have h2:=hz.sum;show (ZB p).a+(ZB p).b+0<=1000000
   exact Nat.le_trans h1 h2,h.i'.WZ _,h.i'.Mf _,h.grp hp⟩
 ne:=fun p hp=>by
  by_cases h1:ZH ks I (nmR ks p.1)=[]
  ·refine .inr fun h2 => ?_;have h3:=h.grp hp p.1;rw [h1,h2] at h3;have h4:=h.d.set.net p hp;simp only [nf,if_true] at h3;omega
  ·exact .inl h1
 r:=fun p hp=>⟨fun hn=>VL h h.i hn,fun hn=>VL h h.i' hn⟩
theorem Ts.few {w:World} {G:Nat->Prop} {f:List UInt8->Option Value} (hF:Wz ks fs I G w f):LR w G f:=fun k v hv=>by
 obtain ⟨p,hp,e,hg⟩:=hF.to k v hv;exact ⟨_,_,_,hg,h.i.Mf k⟩
theorem Ts.left {w w':World} {G F':Nat->Prop} {f fc:List UInt8->Option Value} {dn:List (List UInt8)} (hF:Wz ks fs I G w f) (hdn:∀ k,k∈dn↔∃ p∈D,k=nmR ks p.1) (hkeep:∀ v key S told,Je w G v key S told->Je w' F' v key S told)
  (h1:∀ k,k∉dn->fc k=f k) (h2:∀ p∈D,(ZH ks I' (nmR ks p.1)=[]->fc (nmR ks p.1)=none)/\(ZH ks I' (nmR ks p.1)≠[]->∃ v,fc (nmR ks p.1)=some v/\Je w' F' v (QQ ks p.1) (ZH ks I' (nmR ks p.1)) (ZV ks fs I' (nmR ks p.1)))) :
  Wz ks fs I' F' w' fc where
 to:=fun k v hv=>by
  by_cases hk:k∈dn
  ·obtain ⟨p,hp,rfl⟩:=(hdn k).1 hk;obtain ⟨h3,h4⟩:=h2 p hp;by_cases hg:ZH ks I' (nmR ks p.1)=[]
   ·rw [h3 hg] at hv; cases hv
   ·obtain ⟨v',h5,h6⟩:=h4 hg;rw [hv] at h5;injection h5 with h5
    subst h5;obtain ⟨q,hq⟩:=List.exists_mem_of_ne_nil _ hg;obtain ⟨q1,q2⟩:=ZI.1 hq;exact ⟨q,q1,q2.symm,by rw [h.Zio hp q1 q2]; exact h6⟩
  ·rw [h1 k hk] at hv;obtain ⟨p,hp,e,hg⟩:=hF.to k v hv;have hs:=h.same (k:=k) fun q hq e2=>hk ((hdn k).2 ⟨q,hq,e2⟩);have hpm:p∈ZH ks I' k:=by rw [hs]; exact ZI.2 ⟨hp,e.symm⟩
   have ht:ZV ks fs I' k=ZV ks fs I k:=by unfold ZV; rw [hs]
   exact ⟨p,(ZI.1 hpm).1,e,by rw [hs,ht]; exact hkeep v _ _ _ hg⟩
 of:=fun p hp=>by
  by_cases hk:nmR ks p.1∈dn
  ·obtain ⟨q,hq,e⟩:=(hdn _).1 hk
   have hg:ZH ks I' (nmR ks q.1)≠[]:=fun e2=>by
    have:=ZI.2 ⟨hp,e⟩;rw [e2] at this;cases this
   obtain ⟨v,h5,_⟩:=(h2 q hq).2 hg;rw [e,h5];exact fun h=>by cases h
  ·rw [h1 _ hk];have hs:=h.same (k:=nmR ks p.1) fun q hq e2=>hk ((hdn _).2 ⟨q,hq,e2⟩);have hpm:p∈ZH ks I (nmR ks p.1):=by rw [<- hs]; exact ZI.2 ⟨hp,rfl⟩
   exact hF.of p (ZI.1 hpm).1
end
end
section
abbrev Zs:=List (List Vl×Int)
def ZO (x:List Vl) (n:Int):Zs->Zs
 | []=>[(x,n)]
 | p::S=>if Qu x p.1<0 then (x,n)::p::S else if x=p.1 then (if p.2+n=0 then S else (x,p.2+n)::S) else p::ZO x n S
theorem Rg {x:List Vl} {n:Int}:∀ {S:Zs} {p:List Vl×Int},p∈ZO x n S->p.1=x\/∃ q∈S,q.1=p.1
 | [],p,h=>by rw [ZO,List.mem_singleton] at h; rw [h]; exact .inl rfl
 | q::S,p,h=>by
  rw [ZO] at h;split at h
  ·rcases List.mem_cons.1 h with rfl | h
   ·exact .inl rfl
   ·exact .inr ⟨p,h,rfl⟩
  ·split at h
   ·split at h
    ·exact .inr ⟨p,List.mem_cons_of_mem _ h,rfl⟩
    ·rcases List.mem_cons.1 h with rfl | h
     ·exact .inl rfl
     ·exact .inr ⟨p,List.mem_cons_of_mem _ h,rfl⟩
   ·rcases List.mem_cons.1 h with rfl | h
    ·exact .inr ⟨p,by simp,rfl⟩
    ·rcases Rg h with h1 | ⟨q',h1,h2⟩
     ·exact .inl h1
     ·exact .inr ⟨q',List.mem_cons_of_mem _ h1,h2⟩
theorem Kg (x:List Vl) (n:Int) (r:List Vl):∀ S:Zs,nf (ZO x n S) r=nf S r+if x=r then n else 0
 | []=>by simp [ZO,nf]
 | p::S=>by
  rw [ZO];split
  ·rw [nf,Int.add_comm]
  ·split
   ·rename_i h;split
    ·rw [nf,<- h];split <;> omega
    ·rw [nf,nf,<- h];simp only;split <;> omega
   ·rw [nf,nf,Kg x n r S];omega
theorem No (x:List Vl) (n:Int):∀ S:Zs,(ZO x n S).length<=S.length+1
 | []=>by simp [ZO]
 | p::S=>by
  rw [ZO];split
  ·simp
  ·split
   ·split <;> simp <;> omega
   ·have:=No x n S;simp only [List.length_cons];omega
theorem JW (p:List Vl×Int) (S:Zs):ZN (Zj (p::S))=p.2.natAbs+ZN (Zj S):=by
 show ZN (ZB p::Zj S)=_;rw [ZN];unfold ZB;simp only;omega
theorem Sq (x:List Vl) (n:Int):∀ S:Zs,ZN (Zj (ZO x n S))<=ZN (Zj S)+n.natAbs
 | []=>by rw [ZO,JW]; simp [Zj,ZN]
 | p::S=>by
  rw [ZO];split
  ·rw [JW]; omega
  ·split
   ·split
    ·rw [JW]; omega
    ·rw [JW,JW];simp only;omega
   ·have:=Sq x n S;rw [JW,JW];omega
theorem Mg {x:List Vl} {n:Int} (hx:Zi x=true) (hn:n≠0):∀ {S:Zs},ZP S->ZP (ZO x n S)
 | [],_=>⟨fun p hp=>by rw [ZO,List.mem_singleton] at hp; rw [hp]; exact hx,fun p hp=>by rw [ZO,List.mem_singleton] at hp; rw [hp]; exact hn,by rw [ZO]; exact List.pairwise_singleton _ _⟩
 | p::S,h=>by
  have hp:=h.row p (by simp);have hpv:=ZM hp;have hxv:=ZM hx;have jb:=List.pairwise_cons.1 h.ord;rw [ZO];split
  ·rename_i h1;refine ⟨fun q hq => ?_,fun q hq => ?_,List.pairwise_cons.2 ⟨fun q hq => ?_,h.ord⟩⟩
   ·rcases List.mem_cons.1 hq with rfl | hq
    ·exact hx
    ·exact h.row q hq
   ·rcases List.mem_cons.1 hq with rfl | hq
    ·exact hn
    ·exact h.net q hq
   ·rcases List.mem_cons.1 hq with rfl | hq
    ·exact h1
    ·exact Kt hxv hpv (ZM (h.row q (List.mem_cons_of_mem _ hq))) h1 (jb.1 q hq)
  ·rename_i h1;split
   ·rename_i h2;split
    ·exact h.tail
    ·rename_i h3;refine ⟨fun q hq => ?_,fun q hq => ?_,List.pairwise_cons.2 ⟨fun q hq => ?_,jb.2⟩⟩
     ·rcases List.mem_cons.1 hq with rfl | hq
      ·exact hx
      ·exact h.row q (List.mem_cons_of_mem _ hq)
     ·rcases List.mem_cons.1 hq with rfl | hq
      ·exact h3
      ·exact h.net q (List.mem_cons_of_mem _ hq)
     ·rw [h2]; exact jb.1 q hq
   ·rename_i h2;have ih:=Mg hx hn h.tail;refine ⟨fun q hq => ?_,fun q hq => ?_,List.pairwise_cons.2 ⟨fun q hq => ?_,ih.ord⟩⟩
    ·rcases List.mem_cons.1 hq with rfl | hq
     ·exact hp
     ·exact ih.row q hq
    ·rcases List.mem_cons.1 hq with rfl | hq
     ·exact h.net q (by simp)
     ·exact ih.net q hq
    ·rcases Rg hq with h3 | ⟨q',h3,h4⟩
     ·rw [h3];have h5:Qu x p.1≠0:=fun e=>h2 ((QL hxv hpv).1 e);rw [Sa hpv hxv];omega
     ·rw [<- h4];exact jb.1 q' h3
structure Bd (k:Nat) (S:Zs):Prop where
 set:ZP S
 len:S.length<=k
 sum:ZN (Zj S)<=k
theorem Bd.sm {k:Nat} {S:Zs} (h:Bd k S) (hk:k<=1000):Sm S:=⟨h.set,by have:=h.len; omega,by have:=h.sum; omega⟩
theorem Bd.nil:Bd 0 []:=⟨ZP.nil,by simp,by simp [Zj,ZN]⟩
theorem Bd.mono {k m:Nat} {S:Zs} (h:Bd k S) (hk:k<=m):Bd m S:=⟨h.set,by have:=h.len; omega,by have:=h.sum; omega⟩
theorem Bd.ZO {k:Nat} {S:Zs} (h:Bd k S) {x:List Vl} {n:Int} (hx:Zi x=true) (hn:n=1\/n = -1):Bd (k+1) (ZO x n S) :=
 ⟨Mg hx (by omega) h.set,by have:=No x n S; have:=h.len; omega,by have:=Sq x n S; have:=h.sum; omega⟩
theorem Uy {S:Zs} (h:∀ p∈S,0<=p.2) (r:List Vl):0<=nf S r:=by
 induction S with
 | nil=>exact Int.le_refl _
 | cons p S ih =>
  rw [nf];have h1:=h p (by simp);have h2:=ih fun q hq=>h q (by simp [hq]);split <;> omega
theorem Zit {S:Zs} (h:ZP S) (hp:∀ r,0<=nf S r):∀ p∈S,0<=p.2:=fun p h1=>by
 have:=hp p.1;rw [h.Sr h1] at this;exact this
theorem Zdp {S:Zs} (h:ZP S) (hp:∀ p∈S,0<=p.2) {x:List Vl} {n:Int} (hx:Zi x=true) (hn:n≠0) (h0:0<=nf S x+n):∀ p∈ZO x n S,0<=p.2 :=
 Zit (Mg hx hn h) fun r=>by
  rw [Kg];have:=Uy hp r;split
  ·rename_i e; subst e; exact h0
  ·omega
theorem H0 {x:List Vl} {n:Int} (hx:Zi x=true) (hn:n=1\/n = -1):Bd 1 [(x,n)]:=Bd.ZO (S:=[]) Bd.nil hx hn
theorem Ss (x:List Vl) (n:Int) (r:List Vl):nf [(x,n)] r=if x=r then n else 0:=by simp [nf]
end
end Go.Proofs.YtheflbaejhlboaaGreatDoor
