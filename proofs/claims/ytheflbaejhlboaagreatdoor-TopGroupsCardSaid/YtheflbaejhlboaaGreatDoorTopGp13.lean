/- Lemmas for a law of confluencetop. -/
import Derived.Test.YtheflbaejhlboaaGreatDoorTopGp12
set_option linter.all false
set_option maxHeartbeats 16000000
set_option maxRecDepth 20000
namespace Go.Proofs.YtheflbaejhlboaaGreatDoor
open Tryz
section
open Go.RowKit
structure MOk (w:World) (G:Nat->Prop) (fs:List (ByteArray×Nat)) (f g:List UInt8->Option Value) (au:List UInt8->List Vl) (old dl nw:List UInt8->List (List Vl×Int)) (tl:List UInt8->List Vl):Prop where
 o:∀ k,g k≠none->∃ x va y,(f k).getD ZfA = .agg #[x,va,y]/\Zp G w va (Zi (old k))
 n:∀ k v,g k=some v->Jb w G v (au k) (dl k) []
 l:∀ k,g k≠none->(au k).length<=1000/\k.length<=65536
 t:∀ k,g k≠none->nw k≠[]->∃ val:Nat->Vl,(∀ j,(val j).s.length<=9223372036854775807)/\tl k=au k++(List.range fs.length).map val/\∀ (j:Nat) f,fs[j]? = some f->∀ F W lv,Zp F W lv (Zi (nw k))->Calls prog 490 #[.agg #[.string f.1,.int .i64 (f.2:Int)],lv] W fun e W'=>e = .returned (.tuple #[(val j).val,.bool true])/\Chg (fun _=>False) W W'
 z:∀ k,g k≠none->Sm (old k)/\Sm (dl k)/\Sm (nw k)/\Few (nw k)/\∀ r,nf (nw k) r=nf (old k) r+nf (dl k) r
structure Zdb (w wr:World) (G:Nat->Prop) (g gc:List UInt8->Option Value) (au:List UInt8->List Vl) (dl nw:List UInt8->List (List Vl×Int)) (left:List UInt8->Bool):Prop where
 no:∀ k,g k=none->gc k=none
 ya:∀ k,g k≠none->∃ v,gc k=some v/\Jb wr (X4 w w.heap.size G) v (au k) (if left k then dl k else nw k) []
theorem Zdb.chg {w wr wr':World} {G T:Nat->Prop} {g gc:List UInt8->Option Value} {au:List UInt8->List Vl} {dl nw:List UInt8->List (List Vl×Int)} {left:List UInt8->Bool} (h:Zdb w wr G g gc au dl nw left) (hc:Chg T wr wr')
  (hT:∀ b,T b->¬ X4 w w.heap.size G b):Zdb w wr' G g gc au dl nw left :=
 ⟨h.no,fun k hk=>by
  obtain ⟨v,h1,h2⟩:=h.ya k hk
  exact ⟨v,h1,h2.chg hc fun b hb hl ht=>hT b ht hb⟩⟩
structure Fe (w wr:World) (G:Nat->Prop) (g gc:List UInt8->Option Value) (au:List UInt8->List Vl) (nw:List UInt8->List (List Vl×Int)) (tl:List UInt8->List Vl) (done:List UInt8->Bool):Prop where
 no:∀ k,g k=none->gc k=none
 ya:∀ k,g k≠none->∃ v,gc k=some v/\Jb wr (X4 w w.heap.size G) v (au k) (nw k) (if done k && !(nw k).isEmpty then tl k else [])
theorem Fe.chg {w wr wr':World} {G T:Nat->Prop} {g gc:List UInt8->Option Value} {au:List UInt8->List Vl} {nw:List UInt8->List (List Vl×Int)} {tl:List UInt8->List Vl} {done:List UInt8->Bool} (h:Fe w wr G g gc au nw tl done) (hc:Chg T wr wr')
  (hT:∀ b,T b->¬ X4 w w.heap.size G b):Fe w wr' G g gc au nw tl done :=
 ⟨h.no,fun k hk=>by
  obtain ⟨v,h1,h2⟩:=h.ya k hk
  exact ⟨v,h1,h2.chg hc fun b hb hl ht=>hT b ht hb⟩⟩
theorem Fe.more {w wr:World} {G:Nat->Prop} {g gd uf:List UInt8->Option Value} {au:List UInt8->List Vl} {nw:List UInt8->List (List Vl×Int)} {tl:List UInt8->List Vl} {sl:List (List UInt8)} {J:Nat} {k:List UInt8}
  (h:Fe w wr G g gd au nw tl (fun k=>decide (k∈sl.take J))) (hJ:sl[J]? = some k) (hk:g k≠none) (ho:∀ x,x≠k->uf x=gd x) (hn:∃ v,uf k=some v/\Jb wr (X4 w w.heap.size G) v (au k) (nw k) (if !(nw k).isEmpty then tl k else [])) :
  Fe w wr G g uf au nw tl (fun k=>decide (k∈sl.take (J+1))):=by
 have e:sl.take (J+1)=sl.take J++[k]:=by rw [List.take_add_one,hJ]; rfl
 refine ⟨fun x hx => ?_,fun x hx => ?_⟩
 ·rw [ho x fun e=>by subst e; exact hk hx];exact h.no x hx
 ·by_cases hxk:x=k
  ·subst hxk;obtain ⟨v,h1,h2⟩:=hn;refine ⟨v,h1,?_⟩;have:decide (x∈sl.take (J+1))=true:=by rw [e]; simp
   rw [this,Bool.true_and];exact h2
  ·obtain ⟨v,h1,h2⟩:=h.ya x hx;refine ⟨v,(ho x hxk).trans h1,?_⟩;have:decide (x∈sl.take (J+1))=decide (x∈sl.take J):=by rw [e]; simp [hxk]
   rw [this];exact h2
theorem QA.Zdc {w:World} {b:Nat} {f:List UInt8->Option Value} (h:QA w b f) {a:Addr} {u:Value} (hu:w.cell? a=some u):a.block≠b:=by
 rintro rfl;obtain ⟨es,c,h,_⟩:=h;simp [World.cell?,h] at hu
theorem Ch {α : Type} [DecidableEq α] (x : α):decide (x=x)=true:=by simp
theorem Ci {G:Nat->Prop} {w:World} {p mb fb fo fc kc bb:Nat} {KA:Option Addr} {ks:List Nat} {fs:List (ByteArray×Nat)} {f g:List UInt8->Option Value} {au:List UInt8->List Vl} {old dl nw:List UInt8->List (List Vl×Int)} {tl:List UInt8->List Vl} {KS KB:List (List UInt8)}
  (hF:TW w p mb fb fo fc kc KA ks fs) (hf:QA w mb f) (hg:QA w bb g) (hbb:mb≠bb) (zg:∀ b,G b->b≠bb) (hm:MOk w G fs f g au old dl nw tl) (ff:Lv w G f) (kf:∀ k,f k≠none->k∈KS) (kg:∀ k,g k≠none->k∈KB) (kn:KS.length+KB.length<=12) :
  Calls prog 301 #[.pointer (some ⟨p,0,none⟩),.map (some bb)] w fun e w'=>e = .returned (.int .i64 0)/\Chg (fun i=>i=bb) w w'/\∃ g',QA w' bb g'/\Fe w w' G g g' au nw tl (fun _=>true):=by
 have HF:=Hd hF;have HM:=Hd hf;have HG:=Hd hg;have bF:=Hd hm;have nO:=Hd ff;have nP:=Hd kf;have qB:=Hd kg;have fO:=Hd kn;have nT:=Hd hbb;have j5:=Hd zg;have hbl:=hg.lt;have df:=hf.lt;have tC:=M5;clear hF hf hg hm ff kf kg kn hbb zg
 go_enter func301,ntmps301
 have hg0:=HG.out
 go_wp2_with (at_range; go_loud (refine XF hg0 rfl _ rfl underlying426 rfl ?_); intro w1 c0 hi0 hcn hc1 hs1)
 obtain ⟨rb,hrb⟩:∃ x,x=w.heap.size:=⟨_,rfl⟩
 rw [<- hrb] at hi0;rw [<- hrb];have HI0:=Hd hi0;have jv:=Hd hrb
 have bV:=Hd (show Zdb w w1 G g g au dl nw (fun k=>(g k).isSome) from ⟨fun k h=>h,fun k h=>by
  obtain ⟨v,hv⟩:=Option.ne_none_iff_exists'.1 h;refine ⟨v,hv,?_⟩;rw [hv]
  exact ((bF.out.n k v hv).mono fun b hb hl => .inr ⟨hb,hl⟩).Zf hc1⟩)
 have aU:=hc1.mono (T':=fun i=>i=bb) fun _ _ h=>h.elim;clear hi0 hcn hc1 hs1 hg0 hrb
 go_frame
 go_loopw [16] (fun _ wr=>∃ (left:List UInt8->Bool) (cnt:Nat) (gc:List UInt8->Option Value),Hid (J5 wr rb bb gc left cnt)/\Hid (Zdb w wr G g gc au dl nw left)/\Chg (fun i=>i=bb) w wr) (fun _ wr=>Yd wr rb bb)
 case atStart=>exact ⟨_,c0,g,HI0,bV,aU⟩
 case round =>
  clear HI0 bV aU;obtain ⟨left,cnt,gc,HI,bV,hcw⟩:=hrel;have hi:=HI.out
  go_wp2_with (at_next; go_loud (refine X2 hi rfl _ rfl rfl ?_ ?_))
  ·intro hcnt hdone;have gq:=hi.map;have hfr:=HM.out.chg hcw fun h=>nT.out h
   have hbp:∀ b,b=bb->¬ X4 w w.heap.size G b:=fun b h hp=>by
    rcases hp with hp | hp
    ·omega
    ·exact j5.out b hp.1 h
   have hend:Fe w wr G g gc au nw tl (fun k=>decide (k∈([]:List (List UInt8)))):=⟨bV.out.no,fun k hk=>by
    obtain ⟨v,h1,h2⟩:=bV.out.ya k hk;rw [hdone k,if_neg (by decide)] at h2
    exact ⟨v,h1,by simpa using h2⟩⟩
   have gu:Lv wr (X4 w w.heap.size G) f:=fun k v hv=>by
    obtain ⟨key,S,told,h1,h2⟩:=nO.out k v hv;exact ⟨key,S,told,(h1.mono fun b hb hl => .inr ⟨hb,hl⟩).chg hcw fun b hb _ h=>hbp b h hb,h2⟩
   have dB:∀ k,gc k≠none->g k≠none:=fun k hk e=>hk (hend.no k e)
   have gy:Lv wr (X4 w w.heap.size G) gc:=fun k v hv=>by
    have aN:=dB k (by rw [hv]; exact fun h=>by cases h);obtain ⟨v',h1,h2⟩:=hend.ya k aN;rw [hv] at h1;injection h1 with h1
    subst h1;exact ⟨_,_,_,h2,(bF.out.z k aN).2.2.2.1⟩
   have ug:=HF.out.Zf hcw fun k hk c t fr h=>by
    obtain ⟨es,cl,h2,_⟩:=HG.out;rw [hk,h2] at h;cases h
   have hfull:=Ul ug hfr gq gu gy nP.out (fun k hk=>qB.out k (dB k hk)) fO.out;have nU:=Hd hend;have uh:=Hd dB;have ui:=Hd gq;have nV:=Hd ug;have aW:=Hd hcw;clear hi hdone hend gu gy dB hfr ug HI bV gq hcnt
   go_wp2_with fail
   refine hfull.mono ?_;rintro _ w2 ⟨rfl,hc2⟩;clear hfull
   go_wp2_with fail
   refine Cg.mono ?_;rintro _ w3 ⟨rfl,hcell,hc3⟩;have j6:=hc2.trans hc3 fun _ _ h=>h;have eB:=Lx hcell (ui.out.chg j6 fun h=>h) (fun k hk=>(bF.out.l k (uh.out k hk)).2) (fun k hk=>qB.out k (uh.out k hk)) (by have:=fO.out; omega)
   go_wp2_with fail
   refine eB.mono ?_;rintro _ w4 ⟨A,cap,sl,rfl,hsn,hsl,hsm,hc4,hcells⟩;have iT:=j6.trans hc4 fun _ _ h=>h;have iI:=Hd (And.intro hsn (And.intro hsm hcells));have O0:=Hd (show sl.length<=12 by have:=fO.out; omega);have zh:=Hd (nU.out.chg iT fun _ h=>h.elim);have nL:=Hd (ui.out.chg iT fun h=>h);have aM:Chg (fun i=>i=bb) w w4:=aW.out.trans iT fun _ _ h=>h.elim;obtain ⟨wp,hwp⟩:∃ x,x=wr:=⟨_,rfl⟩
   subst hwp;have O1:=Hd nL.out;have uj:Chg (fun i=>i=bb) wp w4:=iT.mono fun _ _ h=>h.elim
   have hnc:∀ i,i=bb->∀ c t fr,wp.heap[i]? ≠ some (.cells c t fr):=fun i hi c t fr h=>by
    obtain ⟨es,cl,h2,_⟩:=ui.out;rw [hi,h2] at h;cases h
   clear eB hsn hsl hsm hcells hc2 hc3 hc4 j6 hcell hcw
   go_wp2_with fail
   go_loopw [54] (fun i wr=>∃ (J:Nat) (gd:List UInt8->Option Value),J<=sl.length/\i = .int .i64 J/\Hid (QA wr bb gd)/\Hid (Fe w wr G g gd au nw tl (fun k=>decide (k∈sl.take J)))/\Chg (fun i=>i=bb) w wr/\Chg (fun i=>i=bb) w4 wr) (fun i _=>sl.length-(intOf i).toNat)
   case atStart=>exact ⟨0,gc,Nat.zero_le _,rfl,nL,Hd (by simpa using zh.out),aM,Chg.refl _ _⟩
   case round =>
    clear zh nL aM;obtain ⟨J,gd,hJ,rfl,nW,nX,hcw,hcv⟩:=hrel;by_cases hlt:J<sl.length
    ·obtain ⟨k,lZ⟩:∃ k,sl[J]? = some k:=⟨_,List.getElem?_eq_getElem hlt⟩
     obtain ⟨b,off,rfl,q0⟩:=iI.out.2.2 J k lZ;have aN:g k≠none:=uh.out k ((iI.out.2.1 k).1 (List.mem_of_getElem? lZ))
     have hkn:k∉sl.take J:=fun h=>by
      obtain ⟨i,hi⟩:=List.getElem?_of_mem h;have hil:i<J:=by have:=(List.getElem?_eq_some_iff.1 hi).1; rw [List.length_take] at this; omega
      rw [List.getElem?_take_of_lt hil] at hi;have h9:=(List.getElem?_inj (i:=i) (j:=J) (by omega) iI.out.1).1 (hi.trans lZ.symm);omega
     have r0:=hcv.cell q0 fun h=>(O1.out.Zdc q0) h;obtain ⟨v,hv,hgr⟩:=nX.out.ya k aN;rw [decide_eq_false hkn,Bool.false_and,if_neg (by decide)] at hgr;have zi:=Hd hgr;obtain ⟨aY,aZ,IA,ic,TA,iH,rfl,hk1,hk2,hk3⟩:=hgr.cells;have hmd:=nW.out;have hbr:b<wr.heap.size:=World.block_lt_of_cell? wr _ r0;have qF:=Hd (And.intro lZ aN);have hln:=O0.out;have aD:=Hd hlt;have HV:=Hd hv;by_cases hnw:nw k=[]
     ·have h0:((nw k).length:Int)=0:=by rw [hnw]; rfl
      have qD:=Hd hnw;clear hnw lZ aN hkn q0 hk1 hk2 hk3 hgr
      go_wp2_with (at_lookup; go_loud (refine Jx hmd rfl _ _ false rfl underlying426 underlying9 (Xe _) k rfl rfl ?_))
      go_roundw
      case rel =>
       have dx:=(Chg.refl (fun _=>False) wr).alloc (.cells #[.slice aY (au k).length aZ,.slice IA (nw k).length ic,.slice TA 0 iH] 431);refine ⟨J+1,gd,by have:=aD.out; omega,by go_num,Hd (nW.out.chg dx fun h=>h),Hd ((nX.out.chg dx fun _ h=>h.elim).more qF.out.1 qF.out.2 (fun _ _=>rfl) ⟨_,HV.out,?_⟩),hcw.alloc _,hcv.alloc _⟩;rw [qD.out];have:=zi.out.Zf dx;rw [qD.out] at this;exact this
      case measure=>have:=aD.out; simp [intOf]; omega
     ·obtain ⟨val,zk,htl,hone⟩:=bF.out.t k aN hnw;have uk:=nV.out.Zf (uj.trans hcv fun _ _ h=>h) hnc
      have hrow:=fun W (hc:Chg (fun _=>False) wr W)=>Uj (fs:=fs.map fun f=>(f.1,(f.2:Int))) (fb:=fb) (fo:=fo) (fc:=fc) (val:=val) (hk1.Zf hc) (bF.out.l k aN).1 (fun j f hj=>by
       rw [List.getElem?_map] at hj;obtain ⟨f',hf',rfl⟩:=Option.map_eq_some_iff.1 hj;exact (uk.Zf hc fun _ h=>h.elim).ff j f' hf') (by rw [List.length_map]; have:=HF.out.fl; omega) (fun j f hj W' hW'=>by
       rw [List.getElem?_map] at hj;obtain ⟨f',hf',rfl⟩:=Option.map_eq_some_iff.1 hj
       exact hone j f' hf' _ W' _ ((hk2.Zf hc).Zf hW')) zk
      rw [List.length_map,<- htl] at hrow;have hp1:=uk.c1;have hpl:p<wr.heap.size:=World.block_lt_of_cell? wr _ hp1
      have h0:(((nw k).length:Int)==0)=false:=by
       have:(nw k).length≠0:=fun e=>hnw (List.eq_nil_of_length_eq_zero e);rw [beq_eq_false_iff_ne];omega
      have hnl:(nw k).isEmpty=false:=by simpa using hnw
      have O3:=Hd hnl;clear hone zk htl uk hkn q0 hk1 hk2 hk3 hgr hnw hnl lZ aN val
      go_wp2_with (at_lookup; go_loud (refine Jx hmd rfl _ _ false rfl underlying426 underlying9 (Xe _) k rfl rfl ?_))
      have hcd:Chg (fun _=>False) wr ((wr.alloc (.cells #[.slice aY (au k).length aZ,.slice IA (nw k).length ic,.slice TA 0 iH] 431)).drew):=((Chg.refl _ wr).alloc _).drew;have s0:=hcd.cell hp1 fun h=>h;have hblk:((wr.alloc (.cells #[.slice aY (au k).length aZ,.slice IA (nw k).length ic,.slice TA 0 iH] 431)).drew).heap[wr.heap.size]? = some (.cells #[.slice aY (au k).length aZ,.slice IA (nw k).length ic,.slice TA 0 iH] 431 (0,0)):=heap_alloc_new wr _;obtain ⟨s1,s2,_⟩:=Z1 hblk;refine Zh [1,5,7] (S:=fun wx=>wx.cell? ⟨p,1,none⟩=some (.slice (some ⟨fb,fo,none⟩) fs.length fc)/\wx.cell? ⟨wr.heap.size,0,none⟩=some (.slice aY (au k).length aZ)/\wx.cell? ⟨wr.heap.size,1,none⟩=some (.slice IA (nw k).length ic)) (by kernel_rfl) ⟨s0,s1,s2⟩ (fun hHeld => ?_);refine tkP 0 (some 66) ?_;refine tkG 1 (some 67) ?_;refine tkP 2 (some 68) ?_;refine tkP 3 (some 69) ?_;refine tkP 4 (some 70) ?_;refine tkG 5 (some 71) ?_;refine tkP 6 (some 72) ?_;refine tkG 7 (some 73) ?_;refine Zg (rs:=[8]) (by kernel_rfl) (by simp) ?_;refine Zc.ZN rfl (by kernel_rfl) (fun K hK => ?_) Zc.nil;go_simp;refine (hrow _ hcd).mono ?_;rintro _ wA ⟨u,rfl,⟨rv,rfl,aX⟩,hA⟩
      go_wp2_with fail
      refine hK.out _ _ ?_;clear hK K
      try simp only [Act.put,List.setIfInBounds_toArray,List.set_cons_zero,List.set_cons_succ]
      refine tkP 9 (some 65) ?_;refine tkP 10 (some 75) ?_;refine tkP 11 (some 76) ?_;refine tkP 12 (some 12) ?_;refine tkP 13 (some 13) ?_;refine Zr (by kernel_rfl) ?_ _;have O4:=Hd aX;obtain ⟨RA,aa,rfl,_⟩:=aX;have dC:=hA.heap hblk fun h=>h;have hcA:=hcd.trans hA fun _ _ h=>h;obtain ⟨e0,e1,_⟩:=Z1 dC;have sK:=Hd hcA;have zl:=nW.out.chg hcA fun h=>h;have hszA:=hcA.size;have O5:=hcd.size;have O6:=Hd (show wr.heap.size<wA.heap.size by have:=hA.size; simp at this; omega);clear s0 s1 s2 hblk dC hA hrow hp1 hmd hcA;have hlt2:=O6.out
      go_wp2_with (at_mapUpdate; go_loud (refine YK zl rfl _ _ _ rfl underlying426 underlying9 k _ rfl rfl rfl ?_))
      intro w5 zm bK hs5;have qG:=Hd zm;have zn:=Hd bK;clear zm zl e0 e1 bK
      go_wp2_with fail
      go_roundw
      case rel =>
       have hbp:∀ b,b=bb->¬ X4 w w.heap.size G b:=fun b h hp=>by
        rcases hp with hp | hp
        ·have:=HG.out.lt; omega
        ·exact j5.out b hp.1 h
       have gz:Chg (fun i=>i=bb) wr w5:=(sK.out.mono fun _ _ h=>h.elim).trans zn.out fun _ _ h=>h;refine ⟨J+1,_,by have:=aD.out; omega,by go_num,qG,Hd ((nX.out.chg gz fun b h=>hbp b h).more qF.out.1 qF.out.2 (fun x hx=>QE _ _ hx) ⟨_,Z6 _ _ _,?_⟩),hcw.trans gz fun _ _ h=>h,hcv.trans gz fun _ _ h=>h⟩;rw [O3.out,Bool.not_false,if_pos rfl];obtain ⟨kv,iv,tv,e,h1,h2,_⟩:=zi.out.ex;injection e with e
       have e : #[_,_,_] = #[_,_,_]:=e;simp only [Array.mk.injEq,List.cons.injEq,and_true] at e;obtain ⟨rfl,rfl,_⟩:=e;refine ⟨_,_,_,rfl,h1.chg gz fun b hb _ h=>hbp b h hb,h2.chg gz fun b hb _ h=>hbp b h hb,?_⟩;have tO:=hcw.size;refine (O4.out.chg zn.out fun b hb hl h => ?_).mono fun b hb _ => .inl ?_
       ·have hb:wr.heap.size+1<=b:=by simpa [new] using hb
        have:=nW.out.lt;omega
       ·have hb:wr.heap.size+1<=b:=by simpa [new] using hb
        omega
      case measure=>have:=aD.out; simp [intOf]; omega
    ·have hge:¬ ((J:Int)<(sl.length:Int)):=by omega
     go_wp2_with fail
     go_ret
     refine ⟨rfl,hcw,gd,nW.out,nX.out.no,fun k hk => ?_⟩;obtain ⟨v,h1,h2⟩:=nX.out.ya k hk;refine ⟨v,h1,?_⟩
     have hk2:k∈sl.take J:=by
      rw [show J=sl.length by omega,List.take_length];obtain ⟨v',h3,_⟩:=nU.out.ya k hk;exact (iI.out.2.1 k).2 (by rw [h3]; exact fun h=>by cases h)
     rw [decide_eq_true hk2] at h2;exact h2
  ·intro k v w2 cnt2 hlk bL hi2 hlt hc2' hs2 hent;have jY:w.heap.size<=rb/\rb<=w.heap.size:=by have:=jv.out; omega
   have hwr:=hcw.size;have aN:g k≠none:=fun e=>by rw [bV.out.no k e] at bL; cases bL
   have gB:=bV.out.chg hc2' fun b hb h=>by simp only [X4] at h; omega
   obtain ⟨v',hv',hgr⟩:=gB.ya k aN;rw [bL] at hv';injection hv' with hv'
   subst hv';rw [hlk,if_pos rfl] at hgr;obtain ⟨aY,aZ,IA,ic,TA,iH,rfl,hk1,hk2,hk3⟩:=hgr.cells;obtain ⟨ox,zo,oy,hov,hos⟩:=bF.out.o k aN;have hcw2:Chg (fun i=>i=bb) w w2:=hcw.trans hc2' fun i hi h=>by omega
   have iU:=(hos.mono (G:=X4 w w.heap.size G) fun b hb hl => .inr ⟨hb,hl⟩).chg hcw2 fun b hb hl h=>by
    rcases hb with hb | hb
    ·omega
    ·exact j5.out b hb.1 h
   obtain ⟨OA,oc,rfl,_⟩:=id iU;rw [Zu] at iU hov;obtain ⟨qH,qI,uo,dA,hnw⟩:=bF.out.z k aN;have hadd:=fun W (hc:Chg (fun _=>False) w2 W)=>Tc (iU.Zf hc) (hk2.Zf hc) (by rw [Zu]; have:=qH.few; omega) (by rw [Zu]; have:=qI.few; omega) qH.rows qI.rows (by have:=qH.sum; have:=qI.sum; omega)
   have hlk2:∀ W,Chg (fun _=>False) w2 W->(Instr.lookup 426 (.map (some mb)) (QM k) false).run prog W = .ok (.agg #[ox,.slice OA (old k).length oc,oy]) W:=fun W hW=>by
    have hM:=(HM.out.chg hcw2 fun h=>nT.out h).chg hW fun h=>h;have h1:=hM.look underlying426 underlying9 (Xe W) k false;rw [h1];simp only [Bool.false_eq_true,if_false];exact congrArg (fun u=>Result.ok u W) hov
   have jy:=Hd (fun W u (F:Nat->Prop) (hc:Zp F W u (Zi (nw k)))=>Ty hc uo.zr dA.2.1);have qJ:=Hd (And.intro uo (And.intro hnw aN));have tK:=Hd hk1;have HI2:=Hd hi2;have aD:=Hd (And.intro hlt hs2);have lY:=Hd hi.left_eq;have gD:=Hd gB
   have hp2:w2.cell? ⟨p,2,none⟩=some (.map (some mb)):=hcw2.cell HF.out.c2 fun h=>by
    have h1:=HG.out;obtain ⟨es,cl,h2,_⟩:=h1;have h3:=HF.out.c2;simp only at h;subst h;simp [World.cell?,h2] at h3
   have hpl:=World.block_lt_of_cell? w2 _ hp2;simp only at hpl;clear hi hi2 gB hk1 hk2 hk3 hgr hos iU hov qH qI uo dA hnw hlk bL hlt hs2 HI bV aN
   go_wp2_with fail
   have hcd:Chg (fun _=>False) w2 ((w2.alloc (.cells #[.slice aY (au k).length aZ,.slice IA (dl k).length ic,.slice TA 0 iH] 431)).drew):=((Chg.refl _ w2).alloc _).drew;have s0:=hcd.cell hp2 fun h=>h;have s1:=hlk2 _ hcd;have hblk:((w2.alloc (.cells #[.slice aY (au k).length aZ,.slice IA (dl k).length ic,.slice TA 0 iH] 431)).drew).heap[w2.heap.size]? = some (.cells #[.slice aY (au k).length aZ,.slice IA (dl k).length ic,.slice TA 0 iH] 431 (0,0)):=heap_alloc_new w2 _;obtain ⟨_,s2,_⟩:=Z1 hblk;refine Zh [3,5,8] (S:=fun wx=>wx.cell? ⟨p,2,none⟩=some (.map (some mb))/\(Instr.lookup 426 (.map (some mb)) (QM k) false).run prog wx = .ok (.agg #[ox,.slice OA (old k).length oc,oy]) wx/\wx.cell? ⟨w2.heap.size,1,none⟩=some (.slice IA (dl k).length ic)) (by kernel_rfl) ⟨s0,s1,s2⟩ (fun hHeld => ?_);refine tkP 0 (some 22) ?_;refine tkP 1 (some 23) ?_;refine tkP 2 (some 24) ?_;refine tkG 3 (some 25) ?_;refine tkP 4 (some 26) ?_;refine tkG 5 (some 27) ?_;refine tkP 6 (some 28) ?_;refine tkP 7 (some 29) ?_;refine tkG 8 (some 30) ?_;refine Zg (rs:=[9]) (by kernel_rfl) (by simp) ?_;refine Zc.cons rfl (fun K hK => ?_) Zc.nil;go_simp;refine (hadd _ hcd).mono ?_;rintro _ wA ⟨u,S,rfl,hz,hnf,hsl,hset,hA⟩
   go_wp2_with fail
   refine hK.out _ _ ?_ ?_
   ·(intro _; exact ⟨hA.cell s0 (fun h=>h),hlk2 _ (hcd.trans hA fun _ _ h=>h),hA.cell s2 (fun h=>h)⟩)
   clear hK K
   try simp only [Act.put,List.setIfInBounds_toArray,List.set_cons_zero,List.set_cons_succ]
   refine tkP 10 (some 21) ?_;refine tkP 11 (some 32) ?_;refine tkP 12 (some 33) ?_;refine tkP 13 (some 7) ?_;refine tkP 14 (some 8) ?_;refine Zr (by kernel_rfl) ?_ _;have lV:S=nw k:=ZP.uniq hz qJ.out.1.set fun r=>by rw [hnf,Z9,Wl,Wl,qJ.out.2.1]
   rw [lV] at hset;have fe:=jy.out wA u _ hset;have nY:=Hd hset;have HA:=Hd hA;obtain ⟨UA,uc,rfl,_⟩:=hset;have dC:=hA.heap hblk fun h=>h;have hcA:=hcd.trans hA fun _ _ h=>h;clear lV hz hnf hsl S hlk2 hadd s0 s1 s2 hblk hA;rw [Zu] at fe nY
   go_wp2_with fail
   rw [Zu];refine fe.mono ?_;rintro _ wB ⟨rfl,hB⟩;have jA:=hB.heap dC fun h=>h;obtain ⟨e0,_,_⟩:=Z1 jA;have hcB:=hcA.trans hB fun _ _ h=>h;have zq:=HI2.out.chg hcB (fun h=>h) (fun h=>h)
   have dB:gc k≠none:=fun e=>by
    obtain ⟨v,h1,_⟩:=gD.out.ya k qJ.out.2.2;rw [e] at h1;cases h1
   have O7:=Hd (And.intro hcB (And.intro hB dB));clear fe dC jA hcA
   go_wp2_with (at_mapUpdate; go_loud (refine Lt zq rfl _ _ _ rfl underlying426 underlying9 k _ rfl rfl rfl dB ?_))
   intro w3 hi3 hc3 hs3;have HI3:=Hd hi3;clear hi3 zq dB
   go_wp2_with fail
   go_roundw
   case rel =>
    obtain ⟨hcB,hB,_⟩:=O7.out;obtain ⟨hsm,_,aN⟩:=qJ.out
    have hbp:∀ b,b=bb->¬ X4 w w.heap.size G b:=fun b h hp=>by
     rcases hp with hp | hp
     ·omega
     ·exact j5.out b hp.1 h
    have dz:Chg (fun i=>i=bb) w2 w3:=(hcB.mono fun _ _ h=>h.elim).trans hc3 fun _ _ h=>h;refine ⟨_,cnt2,_,HI3,Hd ⟨fun k' hk' => ?_,fun k' hk' => ?_⟩,hcw2.trans dz fun _ _ h=>h⟩
    ·rw [QE _ _ (show k'≠k from fun e=>by subst e; exact aN hk')];exact gD.out.no k' hk'
    ·by_cases hkk:k'=k
     ·subst hkk;refine ⟨_,Z6 _ _ _,⟨_,_,_,rfl,tK.out.chg dz fun b hb _ h=>hbp b h hb,?_,Zm.Xt _ _⟩⟩;rw [Ch,Bool.not_true,Bool.and_false,if_neg (by decide)];have hszA:w.heap.size<w2.heap.size:=by have:=HI2.out.lt; omega
      refine ((nY.out.Zf hB).chg hc3 fun b hb hl h => ?_).mono fun b hb _ => .inl ?_
      ·have hb:w2.heap.size+1<=b:=by simpa [new] using hb
       omega
      ·have hb:w2.heap.size+1<=b:=by simpa [new] using hb
       omega
     ·obtain ⟨v,h1,h2⟩:=gD.out.ya k' hk';refine ⟨v,(QE _ _ hkk).trans h1,?_⟩;have:(left k' && !decide (k'=k))=left k':=by simp [hkk]
      rw [this];exact h2.chg dz fun b hb _ h=>hbp b h hb
   case measure =>
    rw [lY.out,HI3.out.left_eq];exact aD.out.1
end
section
open Go.RowKit
theorem S8 {P:Program} {t kt et:TypeId} {w:World} {b:Nat} {f:List UInt8->Option Value} {ops:Array Oper} {o:Oper} {a:Act} {Q:Exit->Act->World->Prop} {K:Act->World->Prop} {E:Prop} (h:QA w b f) (hg:o.guard=none) (m x v:Operand) (hop:o.op=Op.mapUpdate t m x v) (ht:P.underlying t=some (.map kt et)) (hk:P.underlying kt=some .string)
  (k:List UInt8) (u:Value) (hm:a.eval m = .map (some b)) (hx:a.eval x=QM k) (hv:a.eval v=u)
  (hK:∀ w',QA w' b (upd f k (some u))->Chg (fun i=>i=b) w w'->w'.heap.size=w.heap.size->K (a.put o.dst undef) w'):if Region.wanted o (yielded ops a.tmps)=true then Oper.wp P o a w K Q else E:=by
 rw [if_pos (by simp [Region.wanted,hg])];obtain ⟨w',hrun,r1,r2,r3⟩:=h.store ht hk k u;unfold Oper.wp;simp [execOp,hop,hm,hx,hv,hrun,Result.andThen];exact hK w' r1 r2 r3
theorem WR {P:Program} {t kt et:TypeId} {w:World} {b:Nat} {f:List UInt8->Option Value} {ops:Array Oper} {rest:List Oper} {o:Oper} {a:Act} {Q:Exit->Act->World->Prop} (h:QA w b f) (hg:o.guard=none) (m x:Operand) (hop:o.op=Op.lookup t m x false) (ht:P.underlying t=some (.map kt et)) (hk:P.underlying kt=some .string) {z:Value} (hz:(zeroValue et).run P w = .ok z w)
  (k:List UInt8) (u:Value) (hu:(f k).getD z=u) (hm:a.eval m = .map (some b)) (hx:a.eval x=QM k) (hK:wpList P ops Q rest (a.put o.dst u) w):wpList P ops Q (o::rest) a w:=by
 subst hu;exact Jx h hg m x false hop ht hk hz k hm hx hK
structure S9 (w4 wr:World) (mb:Nat) (own:Option Nat) (B:Option Addr) (L c:Nat) (ps:List PI) (items:List Itm):Prop where
 len:L=ps.length
 few:ps.length<=100
 eq:ps.map (·.2)=items
 o:Qw wr 59 2 own B L c (ZG ps)
 n:∀ g,own=some g->w4.heap.size<=g
 p:∀ p∈ps,POk (fun b=>b<w4.heap.size/\b≠mb) wr p
theorem S9.chg {w4 wr wr':World} {mb:Nat} {own:Option Nat} {B:Option Addr} {L c:Nat} {ps:List PI} {items:List Itm} {T:Nat->Prop} (h:S9 w4 wr mb own B L c ps items) (hc:Chg T wr wr') (hT:∀ b,T b->b<w4.heap.size->b=mb) (hO:∀ b,T b->own≠some b):S9 w4 wr' mb own B L c ps items :=
 ⟨h.len,h.few,h.eq,h.o.chg hc fun b hb ht=>hO b ht hb,h.n,fun p hp=>(h.p p hp).chg hc fun b hb _ ht=>hb.2 (hT b ht hb.1)⟩
theorem S9.push {w4 wr wC w2:World} {mb:Nat} {own own':Option Nat} {B B':Option Addr} {L c c' k:Nat} {ps:List PI} {items:List Itm} {rv:Value} {x:Itm} (h:S9 w4 wr mb own B L c ps items) (hc:Chg (fun _=>False) wr wC) (hown:Qw w2 59 2 own' B' (L+1) c' (ZG ps++[rv,tc x.a x.b]))
  (hor:own'=own\/own'=some k) (hk:w4.heap.size<=k) (ae:Chg (fun b=>own=some b) wC w2) (hrow:POk (fun b=>b<w4.heap.size/\b≠mb) wC (rv,x)) (hf:ps.length<100):S9 w4 w2 mb own' B' (L+1) c' (ps++[(rv,x)]) (items++[x]) where
 len:=by rw [List.length_append,h.len]; rfl
 few:=by rw [List.length_append]; show ps.length+1<=100; omega
 eq:=by rw [List.map_append,h.eq]; rfl
 o:=by rw [Jd]; exact hown
 n:=fun g hg=>by
  rcases hor with e | e
  ·exact h.n g (e▸hg)
  ·rw [e] at hg; injection hg with hg; omega
 p:=fun p hp=>by
  have hn:∀ b,b<w4.heap.size/\b≠mb->b<wC.heap.size->¬ own=some b:=fun b hb _ e=>by have:=h.n b e; omega
  rcases List.mem_append.1 hp with hp | hp
  ·exact ((h.p p hp).chg hc fun _ _ _ h=>h).chg ae hn
  ·rw [List.mem_singleton.1 hp];exact hrow.chg ae hn
def atN (ks:List Nat) (D:List (List Vl×Int)) (k:List UInt8):Option (List Vl×Int):=D.find? fun p=>decide (nmR ks p.1=k)
theorem ZfC {ks:List Nat} {D:List (List Vl×Int)} (hn:(D.map fun p=>nmR ks p.1).Nodup) {p:List Vl×Int} (hp:p∈D):atN ks D (nmR ks p.1)=some p:=by
 unfold atN
 induction D with
 | nil=>cases hp
 | cons q D ih =>
  obtain ⟨h1,h2⟩:=List.nodup_cons.1 (show (nmR ks q.1::D.map fun p=>nmR ks p.1).Nodup from hn);rw [List.find?_cons];rcases List.mem_cons.1 hp with rfl | hp
  ·simp
  ·have hne:nmR ks q.1≠nmR ks p.1:=fun e=>h1 (List.mem_map.2 ⟨p,hp,e.symm⟩);rw [decide_eq_false hne];exact ih h2 hp
def Zba (ks:List Nat) (D:List (List Vl×Int)) (k:List UInt8):List Vl:=((atN ks D k).map fun p=>QQ ks p.1).getD []
def dlN (ks:List Nat) (D:List (List Vl×Int)) (k:List UInt8):List (List Vl×Int):=(atN ks D k).toList
structure Zkr (w:World) (G:Nat->Prop) (ks:List Nat) (fs:List (ByteArray×Nat)) (f:List UInt8->Option Value) (D:List (List Vl×Int)) (old nw:List UInt8->List (List Vl×Int)) (ax tl:List UInt8->List Vl):Prop where
 o:∀ p∈D,∃ x va y key,(f (nmR ks p.1)).getD ZfA = .agg #[x,va,y]/\Zm G w x key/\Zp G w va (Zi (old (nmR ks p.1)))/\Zm G w y (ax (nmR ks p.1))
 l:∀ p∈D,(nmR ks p.1).length<=65536
 t:∀ p∈D,nw (nmR ks p.1)≠[]->∃ val:Nat->Vl,(∀ j,(val j).s.length<=9223372036854775807)/\tl (nmR ks p.1)=QQ ks p.1++(List.range fs.length).map val/\∀ (j:Nat) f,fs[j]? = some f->∀ F W lv,Zp F W lv (Zi (nw (nmR ks p.1)))->Calls prog 490 #[.agg #[.string f.1,.int .i64 (f.2:Int)],lv] W fun e W'=>e = .returned (.tuple #[(val j).val,.bool true])/\Chg (fun _=>False) W W'
 z:∀ p∈D,Sm (old (nmR ks p.1))/\Sm [p]/\Sm (nw (nmR ks p.1))/\Few (nw (nmR ks p.1))/\∀ r,nf (nw (nmR ks p.1)) r=nf (old (nmR ks p.1)) r+nf [p] r
 ne:∀ p∈D,old (nmR ks p.1)≠[]\/nw (nmR ks p.1)≠[]
 r:∀ p∈D,(old (nmR ks p.1)≠[]->Zj (ax (nmR ks p.1))=true)/\(nw (nmR ks p.1)≠[]->Zj (tl (nmR ks p.1))=true)
def Q5 (old nw:List UInt8->List (List Vl×Int)) (ax tl:List UInt8->List Vl) (k:List UInt8):List Itm:=(if old k=[] then [] else [⟨ax k,0,1⟩])++(if nw k=[] then [] else [⟨tl k,1,0⟩])
theorem R5 (old nw:List UInt8->List (List Vl×Int)) (ax tl:List UInt8->List Vl):∀ dn:List (List UInt8),(dn.flatMap (Q5 old nw ax tl)).length<=2*dn.length
 | []=>by simp
 | k::dn=>by
  rw [List.flatMap_cons,List.length_append,List.length_cons];have h1:=R5 old nw ax tl dn;have h2:(Q5 old nw ax tl k).length<=2:=by unfold Q5; split <;> split <;> simp
  omega
theorem R6 {α : Type} [DecidableEq α]:∀ {l m:List α},l.Nodup->(∀ x∈l,x∈m)->l.length<=m.length
 | [],_,_,_=>Nat.zero_le _
 | x::l,m,hn,h=>by
  obtain ⟨h1,h2⟩:=List.nodup_cons.1 hn;have hx:=h x List.mem_cons_self;have:=R6 (m:=m.erase x) h2 fun y hy=>(List.mem_erase_of_ne fun e=>h1 (by subst e; exact hy)).2 (h y (List.mem_cons_of_mem _ hy));have hl:=List.length_erase_of_mem hx;have hp:0<m.length:=List.length_pos_of_mem hx;rw [List.length_cons];omega
theorem M7 (old nw:List UInt8->List (List Vl×Int)) (ax tl:List UInt8->List Vl):∀ dn:List (List UInt8),ZU (dn.flatMap (Q5 old nw ax tl))<=2*dn.length
 | []=>by simp [ZU]
 | k::dn=>by
  rw [List.flatMap_cons,KO,List.length_cons];have h1:=M7 old nw ax tl dn;have h2:ZU (Q5 old nw ax tl k)<=2:=by unfold Q5; split <;> split <;> simp [ZU]
  omega
structure Dn (gd f fc:List UInt8->Option Value) (nw:List UInt8->List (List Vl×Int)) (left:List UInt8->Bool) (dn:List (List UInt8)):Prop where
 nd:dn.Nodup
 lf:∀ k,gd k≠none->left k = !decide (k∈dn)
 dm:∀ k∈dn,gd k≠none
 fc:∀ k,fc k=if decide (k∈dn) then (if (nw k).isEmpty then none else gd k) else f k
theorem Dn.step {gd f fc iJ:List UInt8->Option Value} {nw:List UInt8->List (List Vl×Int)} {left:List UInt8->Bool} {dn:List (List UInt8)} {k:List UInt8} (h:Dn gd f fc nw left dn) (hk:gd k≠none) (hl:left k=true) (ho:∀ x,x≠k->iJ x=fc x) (hn:iJ k=if (nw k).isEmpty then none else gd k) :
  Dn gd f iJ nw (fun x=>left x && !decide (x=k)) (dn++[k]):=by
 have hkd:k∉dn:=fun hm=>by have:=h.lf k hk; rw [hl,decide_eq_true hm] at this; cases this
 refine ⟨?_,fun x hx => ?_,fun x hx => ?_,fun x => ?_⟩
 ·rw [List.nodup_append];exact ⟨h.nd,by simp,fun a ha b hb e=>hkd (by rw [List.mem_singleton.1 hb] at e; exact e▸ha)⟩
 ·by_cases hxk:x=k
  ·subst hxk; simp
  ·rw [h.lf x hx]; simp [hxk]
 ·rcases List.mem_append.1 hx with hx | hx
  ·exact h.dm x hx
  ·rw [List.mem_singleton.1 hx]; exact hk
 ·by_cases hxk:x=k
  ·subst hxk; rw [hn]; simp
  ·rw [ho x hxk,h.fc x]; simp [hxk]
theorem Qw.TY {w:World} {e:TypeId} {k:Nat} {own:Option Nat} {A:Option Addr} {n cap:Nat} {xs:List Value} (h:Qw w e k own A n cap xs) {g:Nat} (hg:own=some g):∃ cs t fr,w.heap[g]? = some (.cells cs t fr):=by
 rcases h.2.2 with ⟨h1,_⟩ | ⟨g',cur,h1,_,h2,_⟩
 ·rw [h1] at hg; cases hg
 ·rw [h1] at hg;injection hg with hg
  subst hg;exact ⟨_,_,_,h2⟩
theorem J5.Ff {w:World} {r b:Nat} {f:List UInt8->Option Value} {left:List UInt8->Bool} {cnt:Nat} (h:J5 w r b f left cnt) {cs:Array Value} {t:TypeId} {fr:Nat×Nat} {g:Nat} (hg:w.heap[g]? = some (.cells cs t fr)):g≠r/\g≠b:=by
 obtain ⟨es,clock,since,seen,c0,hb,_,hr,_⟩:=h;exact ⟨fun e=>(by subst e; rw [hr] at hg; cases hg),fun e=>(by subst e; rw [hb] at hg; cases hg)⟩
theorem Fg {G:Nat->Prop} {w:World} {sv:Value} {p mb fb fo fc kc:Nat} {KA:Option Addr} {ks:List Nat} {fs:List (ByteArray×Nat)} {f:List UInt8->Option Value} {D:List (List Vl×Int)} {old nw:List UInt8->List (List Vl×Int)} {ax tl:List UInt8->List Vl} {KS:List (List UInt8)}
  (hF:TW w p mb fb fo fc kc KA ks fs) (hf:QA w mb f) (zt:∀ b,G b->b≠mb) (hd:Zp G w sv (Zi D)) (hz:ZR D) (hs:∀ p∈D,TX ks fs p.1) (hnd:(D.map fun p=>nmR ks p.1).Nodup) (hok:Zkr w G ks fs f D old nw ax tl)
  (ff:Lv w G f) (kf:∀ k,f k≠none->k∈KS) (kn:KS.length+D.length<=12) :
  Calls prog 181 #[.pointer (some ⟨p,0,none⟩),sv] w fun e w'=>∃ (u:Value) (S:List (List Vl×Int)) (dn:List (List UInt8)) (iJ:List UInt8->Option Value),e = .returned (.tuple #[u,.int .i64 0])/\ZP S/\(∀ r,nf S r=Qs (dn.flatMap (Q5 old nw ax tl)) r)/\dn.Nodup/\(∀ k,k∈dn↔∃ p∈D,k=nmR ks p.1)/\Zp (new w) w' u (Zi S)/\Chg (fun i=>i=mb) w w' /\
   QA w' mb iJ/\(∀ k,k∉dn->iJ k=f k)/\∀ p∈D,(nw (nmR ks p.1)=[]->iJ (nmR ks p.1)=none)/\(nw (nmR ks p.1)≠[]->∃ v,iJ (nmR ks p.1)=some v/\Jb w' (fun b=>w.heap.size<=b\/G b/\b<w.heap.size) v (QQ ks p.1) (nw (nmR ks p.1)) (tl (nmR ks p.1))):=by
 have hright:=J7 hd hz;have HF:=Hd hF;have HM:=Hd hf;have zw:=Hd zt;have HD:=Hd hd;have HS:=Hd hs;have qz:=Hd hnd;have bF:=Hd hok;have nO:=Hd ff;have nP:=Hd kf;have fO:=Hd kn;have df:=hf.lt;obtain ⟨SA,sc,rfl,_⟩:=id hd;rw [Zu] at hright HD ⊢;clear hF hf zt hd hz hs hnd hok ff kf kn
 go_enter func181,ntmps181
 go_wp2_with fail
 refine hright.mono ?_;rintro _ w1 ⟨rfl,hc1⟩;have hsplit:=Cd (HD.out.Zf hc1) (by have:=fO.out; omega) (HF.out.Zf hc1 fun _ h=>h.elim) HS.out qz.out;obtain ⟨bb,hbb⟩:∃ x,x=w1.heap.size:=⟨_,rfl⟩
 rw [<- hbb] at hsplit;have nT:=Hd hbb;clear hright
 go_wp2_with fail
 refine hsplit.mono ?_;rintro _ w2 ⟨rfl,hc2,g,hsp⟩;have gF:Chg (fun _=>False) w w2:=hc1.trans hc2 fun _ _ h=>h;have hsz1:=hc1.size;have hmw:=HM.out.lt
 have hgd:∀ k,g k≠none->∃ p∈D,k=nmR ks p.1:=fun k hk=>by
  obtain ⟨j,q,_,hq,e⟩:=hsp.dom k hk;exact ⟨q,List.mem_of_getElem? hq,e⟩
 have hat:∀ p,p∈D->atN ks D (nmR ks p.1)=some p:=fun p hp=>ZfC qz.out hp
 have hgs:∀ p,p∈D->∃ kv iv,g (nmR ks p.1)=some (Zh9 kv iv (.slice none 0 0))/\Zm (X4 w1 w1.heap.size G) w2 kv (QQ ks p.1)/\Zp (X4 w1 w1.heap.size G) w2 iv (Zi [p]):=fun p hp=>by
  obtain ⟨j,hj⟩:=List.getElem?_of_mem hp;exact hsp.has j p (List.getElem?_eq_some_iff.1 hj).1 hj
 have hmap2:QA w2 bb g:=by rw [hbb]; exact hsp.map
 have nZ:MOk w2 (X4 w1 w1.heap.size G) fs f g (Zba ks D) old (dlN ks D) nw tl:=by
  refine ⟨fun k hk => ?_,fun k v hv => ?_,fun k hk => ?_,fun k hk hn => ?_,fun k hk => ?_⟩
  ·obtain ⟨q,hq,rfl⟩:=hgd k hk;obtain ⟨x,va,y,key,h1,_,h2,_⟩:=bF.out.o q hq;exact ⟨x,va,y,h1,(h2.mono fun b hb hl => .inr ⟨hb,by omega⟩).Zf gF⟩
  ·obtain ⟨q,hq,rfl⟩:=hgd k (by rw [hv]; exact fun h=>by cases h);obtain ⟨kv,iv,h1,h2,h3⟩:=hgs q hq;rw [hv] at h1;injection h1 with h1
   subst h1;refine ⟨kv,iv,_,rfl,?_,?_,Zm.Xt _ _⟩
   ·unfold Zba; rw [hat q hq]; exact h2
   ·unfold dlN; rw [hat q hq]; exact h3
  ·obtain ⟨q,hq,rfl⟩:=hgd k hk;refine ⟨?_,bF.out.l q hq⟩;unfold Zba;rw [hat q hq];have:=HF.out.kl;simp only [Option.map_some,Option.getD_some,QQ,List.length_map];omega
  ·obtain ⟨q,hq,rfl⟩:=hgd k hk;unfold Zba;rw [hat q hq];exact bF.out.t q hq hn
  ·obtain ⟨q,hq,rfl⟩:=hgd k hk;unfold dlN;rw [hat q hq];exact bF.out.z q hq
 have gG:=Ci (KB:=D.map fun p=>nmR ks p.1) (HF.out.Zf gF fun _ h=>h.elim) (HM.out.chg gF fun h=>h) hmap2 (by omega) (fun b hb=>by simp only [X4] at hb; omega) nZ (fun k v hv=>by
   obtain ⟨key,S,told,h1,h2⟩:=nO.out k v hv;exact ⟨key,S,told,(h1.mono fun b hb hl => .inr ⟨hb,by omega⟩).Zf gF,h2⟩) nP.out (fun k hk=>by
   obtain ⟨q,hq,rfl⟩:=hgd k hk
   exact List.mem_map.2 ⟨q,hq,rfl⟩) (by rw [List.length_map]; exact fO.out)
 have O8:=Hd hgd
 have O9:=Hd (show ∀ p,p∈D->g (nmR ks p.1)≠none from fun p hp=>by
  obtain ⟨kv,iv,h1,_⟩:=hgs p hp;rw [h1]
  exact fun h=>by cases h)
 have HAT:=Hd hat;have iP:=Hd gF;have HZ1:=Hd hsz1;have hb2:=hmap2.lt;clear hsplit hgd hat hgs hmap2 nZ hsp hc1 hc2 hbb hsz1
 go_wp2_with fail
 refine gG.mono ?_;rintro _ w4 ⟨rfl,hc3,gd,hmd,hend⟩;have uq:=hc3.size;have aM:Chg (fun _=>False) w w4:=iP.out.trans hc3 fun i hi h=>by have:=nT.out; have:=HZ1.out; omega
 have HE:=Hd (show ∀ q∈D,∃ v,gd (nmR ks q.1)=some v/\Jb w4 (fun b=>(b<w4.heap.size/\b≠mb)/\(w.heap.size<=b\/G b/\b<w.heap.size)) v (QQ ks q.1) (nw (nmR ks q.1)) (if !(nw (nmR ks q.1)).isEmpty then tl (nmR ks q.1) else []) from fun q hq=>by
  obtain ⟨v,h1,h2⟩:=hend.ya _ (O9.out q hq);refine ⟨v,h1,?_⟩;have e:Zba ks D (nmR ks q.1)=QQ ks q.1:=by unfold Zba; rw [HAT.out q hq]; rfl
  rw [e,Bool.true_and] at h2;refine h2.mono fun b hb hl => ?_;have hz1:=HZ1.out;have hz2:=iP.out.size;have hgm:=zw.out b;simp only [X4] at hb
  have h3:w.heap.size<=b\/G b/\b<w.heap.size:=by
   rcases hb with hb | ⟨hb | hb,_⟩
   ·exact .inl (by omega)
   ·exact .inl (by omega)
   ·by_cases hlt:b<w.heap.size
    ·exact .inr ⟨hb.1,hlt⟩
    ·exact .inl (by omega)
  refine ⟨⟨hl,?_⟩,h3⟩;rcases h3 with h3 | h3
  ·omega
  ·exact hgm h3.1)
 have kr:=Hd (show ∀ k,gd k≠none->∃ q∈D,k=nmR ks q.1 from fun k hk=>O8.out k fun e=>hk (hend.no k e));have l5:=Hd (show mb≠bb by have:=nT.out; have:=HZ1.out; omega);clear gG hend hc3
 go_wp2_with (at_range; go_loud (refine XF hmd rfl _ rfl underlying426 rfl ?_); intro w5 c0 hi0 hcn bK hs5)
 obtain ⟨rb,hrb⟩:∃ x,x=w4.heap.size:=⟨_,rfl⟩
 rw [<- hrb] at hi0;rw [<- hrb];have HI0:=Hd hi0;have jv:=Hd hrb;have qG:=Hd ((HM.out.chg aM fun h=>h).chg bK fun h=>h);have og:=bK.mono (T':=fun i=>i=mb) fun _ _ h=>h.elim;have aO:=Hd aM;clear hi0 hcn bK hs5 hrb hmd aM hb2 uq
 go_frame
 go_loopw [9,32] (fun s _ wr=>∃ (left:List UInt8->Bool) (cnt:Nat) (own:Option Nat) (B:Option Addr) (L c:Nat) (ps:List PI) (dn:List (List UInt8)) (fc:List UInt8->Option Value),s = .slice B L c/\Hid (J5 wr rb bb gd left cnt)/\Hid (QA wr mb fc)/\Hid (S9 w4 wr mb own B L c ps (dn.flatMap (Q5 old nw ax tl)))/\Hid (Dn gd f fc nw left dn)/\Chg (fun i=>i=mb) w4 wr) (fun _ _ wr=>Yd wr rb bb)
 case atStart =>
  refine ⟨_,c0,none,none,0,0,[],[],f,rfl,HI0,qG,Hd ⟨rfl,by decide,rfl,Qw.Xt _ _ _ _,fun g h=>(by cases h),fun p h=>(by cases h)⟩,Hd ⟨List.nodup_nil,fun k hk => ?_,fun k h=>(by cases h),fun k=>(by simp)⟩,og⟩;obtain ⟨v,hv⟩:=Option.ne_none_iff_exists'.1 hk;simp [hv]
 case round =>
  clear HI0 qG og;obtain ⟨left,cnt,own,B,L,c,ps,dn,dD,rfl,HI,zy,HO,fq,hcw⟩:=hrel;have hi:=HI.out
  go_wp2_with (at_next; go_loud (refine X2 hi rfl _ rfl rfl ?_ ?_))
  ·intro hcnt hdone
   have hdn:∀ k,k∈dn↔∃ q∈D,k=nmR ks q.1:=fun k=>by
    constructor
    ·intro hk; exact kr.out k (fq.out.dm k hk)
    ·rintro ⟨q,hq,rfl⟩;obtain ⟨v,hv,_⟩:=HE.out q hq;have h1:=fq.out.lf (nmR ks q.1) (by rw [hv]; exact fun h=>by cases h);rw [hdone] at h1;by_cases hm:nmR ks q.1∈dn
     ·exact hm
     ·rw [decide_eq_false hm] at h1; cases h1
   have hdl:dn.length<=12:=by
    have h1:=R6 (m:=D.map fun p=>nmR ks p.1) fq.out.nd fun x hx=>by
     obtain ⟨q',hq',e⟩:=(hdn x).1 hx;exact List.mem_map.2 ⟨q',hq',e.symm⟩
    rw [List.length_map] at h1;have:=fO.out;omega
   have hset:Zp (fun _=>True) wr (.slice B L c) (dn.flatMap (Q5 old nw ax tl)):=by
    have h1:=Zp.My (F:=fun _=>True) (HO.out.o.cs.mono fun _ _ _=>trivial) HO.out.len HO.out.o.fits HO.out.o.WG fun p hp=>(HO.out.p p hp).mono fun _ _ _=>trivial;rw [HO.out.eq] at h1;exact h1
   have jB:=M8 hset (by have:=R5 old nw ax tl dn; omega) (fun x hx=>by
    obtain ⟨k,hk,hx⟩:=List.mem_flatMap.1 hx;obtain ⟨q,hq,rfl⟩:=(hdn k).1 hk;have hr:=bF.out.r q hq;unfold Q5 at hx;rcases List.mem_append.1 hx with hx | hx
    ·split at hx
     ·cases hx
     ·rename_i h; rw [List.mem_singleton.1 hx]; exact hr.1 h
    ·split at hx
     ·cases hx
     ·rename_i h; rw [List.mem_singleton.1 hx]; exact hr.2 h) (by have:=M7 old nw ax tl dn; omega)
   have oh:=Hd hdn;have qC:=Hd jB;have HSZ:=Hd hi.lt;clear hi hcnt hdone hdn hdl hset jB HI
   go_wp2_with fail
   refine qC.out.mono ?_;rintro _ w9 ⟨u,S,rfl,hz,hnf,_,eD,dE⟩;have HS9:=Hd (And.intro hz (And.intro hnf (And.intro eD dE)));obtain ⟨UA,uc,rfl,_⟩:=eD;clear hz hnf dE
   go_wp2_with fail
   go_ret2
   obtain ⟨hz,hnf,eD,dE⟩:=HS9.out;have uu:Chg (fun i=>i=mb) w w9:=((aO.out.mono (T':=fun i=>i=mb) fun _ _ h=>h.elim).trans hcw fun _ _ h=>h).trans dE fun _ _ h=>h.elim;refine ⟨_,S,dn,dD,rfl,hz,hnf,fq.out.nd,oh.out,eD.mono fun b hb _ => ?_,uu,zy.out.chg dE fun h=>h,fun k hk => ?_,fun q hq => ?_⟩
   ·have h1:wr.heap.size<=b:=hb;have h2:=hcw.size;have h3:=aO.out.size;show w.heap.size<=b;omega
   ·rw [fq.out.fc k,decide_eq_false hk,if_neg (by decide)]
   ·have hm:=(oh.out (nmR ks q.1)).2 ⟨q,hq,rfl⟩;have hf:=fq.out.fc (nmR ks q.1);rw [decide_eq_true hm,if_pos rfl] at hf;refine ⟨fun h=>by rw [hf,h]; rfl,fun h => ?_⟩;have hn:(nw (nmR ks q.1)).isEmpty=false:=by simpa using h
    obtain ⟨v,hv,hgr⟩:=HE.out q hq;rw [hn] at hf hgr;refine ⟨v,hf.trans hv,?_⟩;exact ((hgr.chg hcw fun b hb _ h=>hb.1.2 h).Zf dE).mono fun b hb _=>hb.2
  ·intro k v w6 cnt2 hlk aN hi2 hlt hc6 hs6 hent;obtain ⟨q,hq,hkq⟩:=kr.out k (by rw [aN]; exact fun h=>by cases h);have zC:=hi.left_eq;have gH:Chg (fun i=>i=mb\/i=rb) w4 w6:=(hcw.mono (T':=fun i=>i=mb\/i=rb) fun _ _ h => .inl h).trans hc6 fun _ _ h => .inr h;have aab:w4.heap.size<=rb/\rb<wr.heap.size:=by have:=jv.out; have:=hi.lt; omega
   obtain ⟨v',hv',bU⟩:=HE.out q hq;rw [<- hkq,aN] at hv';rw [<- hkq] at bU;injection hv' with hv'
   subst hv'
   have hgr:=bU.chg gH fun b hb _ h=>by
    rcases h with h | h
    ·exact hb.1.2 h
    ·omega
   obtain ⟨told,htold⟩:∃ x,x=(if !(nw k).isEmpty then tl k else []):=⟨_,rfl⟩
   rw [<- htold] at hgr;have jC:=Hd htold;clear htold;obtain ⟨aY,aZ,IA,ic,TA,tcp,rfl,hk1,hk2,hk3⟩:=hgr.cells;obtain ⟨ox,zo,oy,fw,hov,hx1,hx2,hx3⟩:=bF.out.o q hq;rw [<- hkq] at hov hx2 hx3
   have hkd:k∉dn:=fun hm=>by
    have:=fq.out.lf k (by rw [aN]; exact fun h=>by cases h);rw [hlk,decide_eq_true hm] at this;cases this
   have bL:(dD k).getD ZfA = .agg #[ox,zo,oy]:=by rw [fq.out.fc k,decide_eq_false hkd,if_neg (by decide)]; exact hov
   have ku:Chg (fun i=>i=mb) w w6:=(aO.out.mono (T':=fun i=>i=mb) fun _ _ h=>h.elim).trans gH fun i hi h=>by
    rcases h with h | h
    ·exact h
    ·have:=aO.out.size; omega
   have om:=(hx3.mono (G:=fun b=>(b<w4.heap.size/\b≠mb)/\b<w.heap.size) fun b hb hl=>⟨⟨by have:=aO.out.size; omega,zw.out b hb⟩,hl⟩).chg ku fun b hb _ h=>hb.1.2 h;obtain ⟨XA,xc,rfl,_⟩:=id hx1;obtain ⟨OA,oc,rfl,_⟩:=id hx2;obtain ⟨YA,yc,rfl,_⟩:=id hx3;rw [Zu] at bL hov
   have hp2:w6.cell? ⟨p,2,none⟩=some (.map (some mb)):=ku.cell HF.out.c2 fun h=>by
    obtain ⟨es,cl,h2,_⟩:=HM.out;have h3:=HF.out.c2;simp only at h;subst h;simp [World.cell?,h2] at h3
   have hpl:=World.block_lt_of_cell? w6 _ hp2;simp only at hpl;have uw:QA w6 mb dD:=zy.out.chg hc6 fun h=>by have:=HM.out.lt; have:=aO.out.size; omega
   have qK:S9 w4 w6 mb own B L c ps (dn.flatMap (Q5 old nw ax tl)):=HO.out.chg hc6 (fun b h hl=>by omega) fun b h e=>by
    obtain ⟨cs,t,fr,hh⟩:=HO.out.o.TY e;exact (hi.Ff hh).1 h
   have hown6:∀ b,own=some b->b<w6.heap.size:=fun b hb=>qK.o.lt hb;have hst:=ZD;have gI:∀ W,Calls prog 165 #[.int .i64 1,.int .i64 0] W fun e w'=>e = .returned (.complex .f64 (fl 1) (fl 0))/\Chg (fun _=>False) W w':=fun W=>Mq 1 0 W;have gJ:∀ W,Calls prog 165 #[.int .i64 0,.int .i64 1] W fun e w'=>e = .returned (.complex .f64 (fl 0) (fl 1))/\Chg (fun _=>False) W w':=fun W=>Mq 0 1 W;have hw4:w4.heap.size<=w6.heap.size:=gH.size
   have hdl:dn.length<=11:=by
    have h1:=R6 (m:=(D.map fun p=>nmR ks p.1).erase k) fq.out.nd fun x hx=>by
     obtain ⟨q',hq',e⟩:=kr.out x (fq.out.dm x hx);exact (List.mem_erase_of_ne fun e2=>hkd (by subst e2; exact hx)).2 (List.mem_map.2 ⟨q',hq',e.symm⟩)
    have h2:=List.length_erase_of_mem (List.mem_map.2 ⟨q,hq,hkq.symm⟩:k∈D.map fun p=>nmR ks p.1);rw [List.length_map] at h2;have:=fO.out;omega
   have oo:ps.length<=22:=by
    have h1:=R5 old nw ax tl dn;rw [<- qK.eq,List.length_map] at h1;omega
   have iV:=Hd qK;have dF:=Hd uw;have HI2:=Hd hi2;have HQ:=Hd (And.intro hq (And.intro hkq (And.intro hlk aN)));have aD:=Hd (And.intro hlt zC);have HK1:=Hd hk1;have zD:=Hd hk3;have zF:=Hd om;have kz:=Hd gH;have HOWN:=Hd hown6;have gK:=Hd oo;clear hi hi2 qK hq hkq hlk aN hlt zC hk1 hk2 hk3 hx1 hx2 hx3 om hgr bU hov hkd gH ku hown6 hdl oo HI HO hs6 hc6
   have iK:=Hd (show ∀ b,own=some b->b≠mb/\b≠rb/\b≠bb from fun b hb=>by
    obtain ⟨cs,t,fr,hh⟩:=iV.out.o.TY hb;have h1:=HI2.out.Ff hh;refine ⟨fun e => ?_,h1.1,h1.2⟩;obtain ⟨es,cl,h2,_⟩:=dF.out;rw [e,h2] at hh
    cases hh)
   by_cases ho:old k=[]
   ·have hol:((old k).length:Int)=0:=by rw [ho]; rfl
    by_cases hn:nw k=[]
    ·have:=HQ.out.2.1;rcases bF.out.ne q HQ.out.1 with h | h
     ·rw [<- this] at h; exact absurd ho h
     ·rw [<- this] at h; exact absurd hn h
    ·have hnl:(((nw k).length:Int)==0)=false:=by
      have:(nw k).length≠0:=fun e=>hn (List.eq_nil_of_length_eq_zero e);rw [beq_eq_false_iff_ne];omega
     have HH:=Hd (And.intro ho hn);clear ho hn
     go_wp2_with (at_lookup; go_loud (refine WR (dF.out.chg ((Chg.refl (fun _=>False) w6).alloc _) fun h=>h) rfl _ _ rfl underlying426 underlying9 (Xe _) k _ bL rfl rfl ?_))
     obtain ⟨ww,gL⟩:∃ x,x=((w6.alloc (.cells #[.slice aY (QQ ks q.1).length aZ,.slice IA (nw k).length ic,.slice TA told.length tcp] 431)).alloc (.cells #[.slice XA fw.length xc,.slice OA (old k).length oc,.slice YA (ax k).length yc] 431)):=⟨_,rfl⟩
     rw [<- gL]
     have kC:(ww.heap[w6.heap.size]? = some (.cells #[.slice aY (QQ ks q.1).length aZ,.slice IA (nw k).length ic,.slice TA told.length tcp] 431 (0,0))/\ww.heap[w6.heap.size+1]? = some (.cells #[.slice XA fw.length xc,.slice OA (old k).length oc,.slice YA (ax k).length yc] 431 (0,0)))/\Chg (fun _=>False) w6 ww/\ww.heap.size=w6.heap.size+2:=by
      subst gL;exact ⟨Qz (Chg.refl _ _),((Chg.refl _ _).alloc _).alloc _,by show ((w6.heap.push _).push _).size=_; rw [Array.size_push,Array.size_push]⟩
     obtain ⟨⟨hgb,bD⟩,hcW,hszW⟩:=kC;have HOW:=Hd (iV.out.chg hcW (fun _ h=>h.elim) fun _ h=>h.elim);have dK:=Hd hszW;have aW:=Hd hcW;have j5:=Hd hgb;clear gL hszW bL;have uy:ww.cell? ⟨p,2,none⟩=some (.map (some mb)):=aW.out.cell hp2 fun h=>h;have uz:QA ww mb dD:=dF.out.chg aW.out fun h=>h;have oq:=HOW;have HIS:=Hd (HI2.out.chg aW.out (fun h=>h) fun h=>h);have HAS:=Hd (And.intro iK.out (show ∀ b,own=some b->b≠w6.heap.size from fun b hb=>by have:=HOWN.out b hb; omega));have gM:=Hd ((kz.out.trans aW.out fun _ _ h=>h.elim).mono (T':=fun i=>i=mb) fun i hi h=>by omega);have kD:=Hd ((zD.out.mono (G:=fun b=>(b<w4.heap.size/\b≠mb)/\b<w4.heap.size) fun b hb _=>⟨hb.1,hb.1.1⟩).Zf aW.out);have ow:=hgb;have fe:p<ww.heap.size:=by have:=dK.out; omega
     have oz:w6.heap.size<ww.heap.size:=by have:=dK.out; omega
     clear hp2;have s0:(ww.drew).cell? ⟨p,2,none⟩=some (.map (some mb)):=uy;have oC:(ww.drew).heap[w6.heap.size]? = some (.cells #[.slice aY (QQ ks q.1).length aZ,.slice IA (nw k).length ic,.slice TA told.length tcp] 431 (0,0)):=hgb;obtain ⟨s1,s2,s3⟩:=Z1 oC;have oD:QA (ww.drew) mb dD:=uz;refine Zh [3,5] (S:=fun wx=>wx.cell? ⟨p,2,none⟩=some (.map (some mb))/\wx.cell? ⟨w6.heap.size,0,none⟩=some (.slice aY (QQ ks q.1).length aZ)/\wx.cell? ⟨w6.heap.size,1,none⟩=some (.slice IA (nw k).length ic)/\wx.cell? ⟨w6.heap.size,2,none⟩=some (.slice TA told.length tcp)) (by kernel_rfl) ⟨s0,s1,s2,s3⟩ (fun hHeld => ?_);refine tkP 0 (some 63) ?_;refine tkP 1 (some 64) ?_;refine tkP 2 (some 65) ?_;refine tkG 3 (some 66) ?_;refine tkP 4 (some 67) ?_;refine tkG 5 (some 68) ?_;refine Zg (rs:=[6]) (by kernel_rfl) (by simp) ?_;refine Zc.ZN rfl (by kernel_rfl) (fun K hK => ?_) Zc.nil;refine S8 oD rfl _ _ _ rfl underlying426 underlying9 k (.agg #[.slice aY (QQ ks q.1).length aZ,.slice IA (nw k).length ic,.slice TA told.length tcp]) rfl rfl rfl ?_;intro w8 oF hc8 uA;refine hK.out _ _ ?_;clear hK K
     try simp only [Act.put,List.setIfInBounds_toArray,List.set_cons_zero,List.set_cons_succ]
     refine Zr (by kernel_rfl) ?_ _;have bW:Chg (fun i=>i=mb) ww w8:=((Chg.refl _ ww).drew).trans hc8 fun _ _ h=>h;have gP:mb≠w6.heap.size:=by have:=HM.out.lt; have:=aO.out.size; omega
     have dO:=Hd (oq.out.chg bW (fun b hb _=>hb) fun b hb e=>(HAS.out.1 b e).1 hb);have kE:=bW.heap ow fun e=>gP e.symm;obtain ⟨_,_,oG⟩:=Z1 kE;have kF:(w8.drew).cell? ⟨w6.heap.size,2,none⟩=some (.slice TA told.length tcp):=oG;have uB:=Hd oF;have gQ:=Hd bW;have uC:w6.heap.size<w8.heap.size:=lt_of_block kE;clear oF hc8 uA kE oD oC s0 s1 s2 s3 ow bW;have oH:=HAS.out.2
     go_wp2_with fail
     refine Zh [2] (S:=fun wx=>wx.cell? ⟨w6.heap.size,2,none⟩=some (.slice TA told.length tcp)) (by kernel_rfl) kF (fun hHeld => ?_);refine tkP 0 (some 69) ?_;refine tkP 1 (some 70) ?_;refine tkG 2 (some 71) ?_;refine Zg (rs:=[3]) (by kernel_rfl) (by simp) ?_;refine Zc.cons rfl (fun K hK => ?_) Zc.nil;go_simp;refine (gI _).mono ?_;rintro _ l6 ⟨rfl,uD⟩;have kG:=uD.cell kF (fun h=>h);refine hK.out _ _ ?_ ?_
     ·(intro _; exact kG)
     clear hK K
     try simp only [Act.put,List.setIfInBounds_toArray,List.set_cons_zero,List.set_cons_succ]
     refine tkP 4 (some 73) ?_;refine Zg (rs:=[5]) (by kernel_rfl) (by simp) ?_;refine Zc.cons rfl (fun K hK => ?_) Zc.nil;go_simp;have kH:(l6.alloc (.cells #[.slice TA told.length tcp,.complex .f64 (fl 1) (fl 0)] 59)).cell? ⟨w6.heap.size,2,none⟩=some (.slice TA told.length tcp):=((Chg.refl (fun _=>False) l6).alloc _).cell kG (fun h=>h);refine hK.out _ _ ?_ ?_
     ·(intro _; exact kH)
     clear hK K
     try simp only [Act.put,List.setIfInBounds_toArray,List.set_cons_zero,List.set_cons_succ]
     refine Zg (rs:=[6]) (by kernel_rfl) (by simp) ?_;refine Zc.cons rfl (fun K hK => ?_) Zc.nil;have zG:=Hd (X0 l6 (.slice TA told.length tcp) (.complex .f64 (fl 1) (fl 0)) 59);have fA:Chg (fun _=>False) w8 l6:=((Chg.refl (fun _=>False) w8).drew).trans uD fun _ _ h=>h;have oI:=Hd (dO.out.o.chg (fA.alloc (.cells #[.slice TA told.length tcp,.complex .f64 (fl 1) (fl 0)] 59)) fun _ _ h=>h);refine Q6 rfl _ _ 44 44 rfl 59 2 40 VB own _ L c 1 (ZG ps) [.slice TA told.length tcp,.complex .f64 (fl 1) (fl 0)] _ rfl rfl oI.out (XK.slice zG.out) (by simp [Value.oneCell']) (L+1) rfl ?_ ?_ ?_
     ·have:=dO.out.len; have:=dO.out.few; omega
     ·have:=dO.out.len; have:=dO.out.few; omega
     intro uE Bc cc vc jD fZ eG;have zH:=Hd jD;clear jD;have oJ:∀ b,own=some b->b≠w6.heap.size:=fun b hb=>(by have:=HOWN.out b hb; omega)
     have oK:=eG.cell kH (fun h=>oJ _ h rfl);go_simp;refine hK.out _ _ ?_ ?_
     ·(intro _; exact oK)
     clear hK K
     try simp only [Act.put,List.setIfInBounds_toArray,List.set_cons_zero,List.set_cons_succ]
     refine tkP 7 (some 9) ?_;refine Zr (by kernel_rfl) ?_ _
     have htl:told=tl k:=by
      rw [jC.out];have:(nw k).isEmpty=false:=by simpa using HH.out.2
      rw [this]; rfl
     have kI:told.length<=1000000:=by
      have h1:=(bF.out.r q HQ.out.1).2;rw [<- HQ.out.2.1] at h1;have:=Xd (h1 HH.out.2);rw [htl];omega
     have dP:=fA.size;have uF:=Hd (dO.out.push (x:=⟨told,1,0⟩) (fA.alloc (.cells #[.slice TA told.length tcp,.complex .f64 (fl 1) (fl 0)] 59)) zH.out fZ (Nat.le_trans (show w4.heap.size<=l6.heap.size by have:=dO.out.o; have:=gM.out.size; have:=gQ.out.size; omega) ((Chg.refl (fun _=>False) l6).alloc _).size) eG ⟨((kD.out.mono fun b hb _=>hb.1).chg gQ.out fun b hb _ h=>hb.2 h).Zf (fA.alloc _),(show 1<=1125899906842624 by decide),Nat.zero_le _,kI⟩ (by have:=gK.out; omega));have oL:Chg (fun b=>own=some b) w8 vc:=((fA.alloc _).mono fun _ _ h=>h.elim).trans eG fun _ _ h=>h;have iW:=Hd oL;clear fA uD zH fZ eG zG oI oJ oK kF kG kH oL dP gP oG
     go_wp2_with fail
     go_roundw
     case rel =>
      have hmb:mb≠rb/\mb≠bb:=⟨by have:=HM.out.lt; have:=aO.out.size; omega,l5.out⟩
      obtain ⟨hq,hkq,hlk,aN⟩:=HQ.out;refine ⟨_,cnt2,uE,Bc,L+1,cc,(ps++[(.slice TA told.length tcp,⟨told,1,0⟩)]),dn++[k],_,rfl,Hd ((HIS.out.chg gQ.out (fun e=>hmb.2 e.symm) fun e=>hmb.1 e.symm).chg iW.out (fun e=>(HAS.out.1 _ e).2.2 rfl) fun e=>(HAS.out.1 _ e).2.1 rfl),Hd (uB.out.chg iW.out fun e=>(HAS.out.1 _ e).1 rfl),Hd ?_,Hd (fq.out.step (by rw [aN]; exact fun h=>by cases h) hlk (fun x hx=>QE _ _ hx) ((Z6 _ _ _).trans ?_)),((gM.out.trans gQ.out fun _ _ h=>h).mono (T':=fun i=>i=mb\/w4.heap.size<=i) (fun i hi h => .inl h) |>.trans iW.out fun i hi e => .inr (oq.out.n _ e)).mono fun i hi h=>by omega⟩
      ·have e1:(dn++[k]).flatMap (Q5 old nw ax tl)=(dn.flatMap (Q5 old nw ax tl))++[⟨told,1,0⟩]:=by
        rw [List.flatMap_append,htl];simp [Q5,HH.out.1,HH.out.2]
       rw [e1];exact uF.out
      ·have:(nw k).isEmpty=false:=by simpa using HH.out.2
       rw [this,aN];rfl
     case measure =>
      have hmb:mb≠rb/\mb≠bb:=⟨by have:=HM.out.lt; have:=aO.out.size; omega,l5.out⟩
      rw [aD.out.2,((HIS.out.chg gQ.out (fun e=>hmb.2 e.symm) fun e=>hmb.1 e.symm).chg iW.out (fun e=>(HAS.out.1 _ e).2.2 rfl) fun e=>(HAS.out.1 _ e).2.1 rfl).left_eq];exact aD.out.1
   ·have hol:(0:Int)<((old k).length:Int):=by
     have:(old k).length≠0:=fun e=>ho (List.eq_nil_of_length_eq_zero e);omega
    by_cases hn:nw k=[]
    ·have hnl:((nw k).length:Int)=0:=by rw [hn]; rfl
     have HH:=Hd (And.intro ho hn);clear ho hn
     go_wp2_with (at_lookup; go_loud (refine WR (dF.out.chg ((Chg.refl (fun _=>False) w6).alloc _) fun h=>h) rfl _ _ rfl underlying426 underlying9 (Xe _) k _ bL rfl rfl ?_))
     obtain ⟨ww,gL⟩:∃ x,x=((w6.alloc (.cells #[.slice aY (QQ ks q.1).length aZ,.slice IA (nw k).length ic,.slice TA told.length tcp] 431)).alloc (.cells #[.slice XA fw.length xc,.slice OA (old k).length oc,.slice YA (ax k).length yc] 431)):=⟨_,rfl⟩
     rw [<- gL]
     have kC:(ww.heap[w6.heap.size]? = some (.cells #[.slice aY (QQ ks q.1).length aZ,.slice IA (nw k).length ic,.slice TA told.length tcp] 431 (0,0))/\ww.heap[w6.heap.size+1]? = some (.cells #[.slice XA fw.length xc,.slice OA (old k).length oc,.slice YA (ax k).length yc] 431 (0,0)))/\Chg (fun _=>False) w6 ww/\ww.heap.size=w6.heap.size+2:=by
      subst gL;exact ⟨Qz (Chg.refl _ _),((Chg.refl _ _).alloc _).alloc _,by show ((w6.heap.push _).push _).size=_; rw [Array.size_push,Array.size_push]⟩
     obtain ⟨⟨hgb,bD⟩,hcW,hszW⟩:=kC;have HOW:=Hd (iV.out.chg hcW (fun _ h=>h.elim) fun _ h=>h.elim);have dK:=Hd hszW;have aW:=Hd hcW;have j5:=Hd hgb;clear gL hszW bL;obtain ⟨_,_,uG⟩:=Z1 bD;have dQ:(ww.drew).cell? ⟨w6.heap.size+1,2,none⟩=some (.slice YA (ax k).length yc):=uG;refine Zh [2] (S:=fun wx=>wx.cell? ⟨(w6.heap.size+1),2,none⟩=some (.slice YA (ax k).length yc)) (by kernel_rfl) dQ (fun hHeld => ?_);refine tkP 0 (some 47) ?_;refine tkP 1 (some 48) ?_;refine tkG 2 (some 49) ?_;refine Zg (rs:=[3]) (by kernel_rfl) (by simp) ?_;refine Zc.cons rfl (fun K hK => ?_) Zc.nil;go_simp;refine (gJ _).mono ?_;rintro _ dR ⟨rfl,kJ⟩;have gT:=kJ.cell dQ (fun h=>h);refine hK.out _ _ ?_ ?_
     ·(intro _; exact gT)
     clear hK K
     try simp only [Act.put,List.setIfInBounds_toArray,List.set_cons_zero,List.set_cons_succ]
     refine tkP 4 (some 51) ?_;refine Zg (rs:=[5]) (by kernel_rfl) (by simp) ?_;refine Zc.cons rfl (fun K hK => ?_) Zc.nil;go_simp;have gU:(dR.alloc (.cells #[.slice YA (ax k).length yc,.complex .f64 (fl 0) (fl 1)] 59)).cell? ⟨(w6.heap.size+1),2,none⟩=some (.slice YA (ax k).length yc):=((Chg.refl (fun _=>False) dR).alloc _).cell gT (fun h=>h);refine hK.out _ _ ?_ ?_
     ·(intro _; exact gU)
     clear hK K
     try simp only [Act.put,List.setIfInBounds_toArray,List.set_cons_zero,List.set_cons_succ]
     refine Zg (rs:=[6]) (by kernel_rfl) (by simp) ?_;refine Zc.cons rfl (fun K hK => ?_) Zc.nil;have oM:=Hd (X0 dR (.slice YA (ax k).length yc) (.complex .f64 (fl 0) (fl 1)) 59);have aV:Chg (fun _=>False) ww dR:=((Chg.refl (fun _=>False) ww).drew).trans kJ fun _ _ h=>h;have gV:=Hd (HOW.out.o.chg (aV.alloc (.cells #[.slice YA (ax k).length yc,.complex .f64 (fl 0) (fl 1)] 59)) fun _ _ h=>h);refine Q6 rfl _ _ 44 44 rfl 59 2 40 VB own _ L c 1 (ZG ps) [.slice YA (ax k).length yc,.complex .f64 (fl 0) (fl 1)] _ rfl rfl gV.out (XK.slice oM.out) (by simp [Value.oneCell']) (L+1) rfl ?_ ?_ ?_
     ·have:=HOW.out.len; have:=HOW.out.few; omega
     ·have:=HOW.out.len; have:=HOW.out.few; omega
     intro bX Ba ca va dG dS aR;have oN:=Hd dG;clear dG;have gW:∀ b,own=some b->b≠(w6.heap.size+1):=fun b hb=>(by have:=HOWN.out b hb; omega)
     have gX:=aR.cell gU (fun h=>gW _ h rfl);go_simp;refine hK.out _ _ ?_ ?_
     ·(intro _; exact gX)
     clear hK K
     try simp only [Act.put,List.setIfInBounds_toArray,List.set_cons_zero,List.set_cons_succ]
     refine tkP 7 (some 9) ?_;refine Zr (by kernel_rfl) ?_ _
     have kK:(ax k).length<=1000000:=by
      have h1:=(bF.out.r q HQ.out.1).1;rw [<- HQ.out.2.1] at h1;have:=Xd (h1 HH.out.1);omega
     have dP:=aV.size;have eH:=Hd (HOW.out.push (x:=⟨ax k,0,1⟩) (aV.alloc (.cells #[.slice YA (ax k).length yc,.complex .f64 (fl 0) (fl 1)] 59)) oN.out dS (Nat.le_trans (show w4.heap.size<=dR.heap.size by have:=dK.out; omega) ((Chg.refl (fun _=>False) dR).alloc _).size) aR ⟨((zF.out.mono fun b hb _=>hb.1).Zf aW.out).Zf (aV.alloc _),Nat.zero_le _,(show 1<=1125899906842624 by decide),kK⟩ (by have:=gK.out; omega));have cu:Chg (fun b=>own=some b) ww va:=((aV.alloc _).mono fun _ _ h=>h.elim).trans aR fun _ _ h=>h;have fB:=cu.heap hgb fun e=>by have:=HOWN.out _ e; omega
     have hpw:p<w.heap.size:=World.block_lt_of_cell? w _ HF.out.c2
     have kL:va.cell? ⟨p,2,none⟩=some (.map (some mb)):=cu.cell (aW.out.cell hp2 fun h=>h) fun e=>by
      have h1:w4.heap.size<=p:=iV.out.n _ e;have h2:=aO.out.size;omega
     have fC:QA va mb dD:=(dF.out.chg aW.out fun h=>h).chg cu fun e=>(iK.out _ e).1 rfl;have fD:=Hd ((HI2.out.chg aW.out (fun h=>h) fun h=>h).chg cu (fun e=>(iK.out _ e).2.2 rfl) fun e=>(iK.out _ e).2.1 rfl);have bq:Chg (fun i=>i=mb) w4 va:=(((kz.out.trans aW.out fun _ _ h=>h.elim).mono (T':=fun i=>i=mb\/w4.heap.size<=i) fun i hi h=>by omega).trans cu fun i hi e => .inr (iV.out.n _ e)).mono fun i hi h=>by omega
     have gY:∀ b,bX=some b->b≠w6.heap.size:=fun b hb=>by
      rcases dS with e | e
      ·rw [e] at hb; have:=HOWN.out b hb; omega
      ·rw [e] at hb; injection hb with hb; have h8:=((Chg.refl (fun _=>False) dR).alloc (.cells #[.slice YA (ax k).length yc,.complex .f64 (fl 0) (fl 1)] 59)).size; have:=dK.out; omega
     have gZ:=cu.size
     have ib:∀ b,bX=some b->b≠mb/\b≠rb/\b≠bb:=fun b hb=>by
      obtain ⟨cs,t,fr,hh⟩:=eH.out.o.TY hb;have h1:=fD.out.Ff hh;refine ⟨fun e => ?_,h1.1,h1.2⟩;obtain ⟨es,cl,h2,_⟩:=fC;rw [e,h2] at hh;cases hh
     have fe:p<va.heap.size:=by have:=dK.out; omega
     have oz:w6.heap.size<va.heap.size:=by have:=dK.out; omega
     have l7:=Hd (And.intro cu (And.intro bq (And.intro gY ib)));clear ib aV kJ oN dS aR oM gV gW gX dQ hgb bD hpw gY bq cu gZ dP hp2;obtain ⟨d0,d1,d2⟩:=Z1 fB
     go_wp2_with (at_delete; go_loud (refine GR fC rfl _ _ rfl underlying426 underlying9 k rfl rfl ?_))
     intro w9 zI dE hs9;have HM9:=Hd zI;clear zI fC d0 d1 d2 fB kL
     go_wp2_with fail
     go_roundw
     case rel =>
      obtain ⟨cu,bq,_⟩:=l7.out;have hmb:mb≠rb/\mb≠bb:=⟨by have:=HM.out.lt; have:=aO.out.size; omega,l5.out⟩
      obtain ⟨hq,hkq,hlk,aN⟩:=HQ.out;refine ⟨_,cnt2,bX,Ba,L+1,ca,(ps++[(.slice YA (ax k).length yc,⟨ax k,0,1⟩)]),dn++[k],_,rfl,Hd (fD.out.chg dE (fun e=>hmb.2 e.symm) fun e=>hmb.1 e.symm),HM9,Hd ?_,Hd (fq.out.step (by rw [aN]; exact fun h=>by cases h) hlk (fun x hx=>QE _ _ hx) ((Z6 _ _ _).trans (by rw [HH.out.2]; rfl))),bq.trans dE fun _ _ h=>h⟩
      have h1:=eH.out.chg dE (fun b hb _=>hb) fun b hb e=>by
       subst hb;obtain ⟨cs,t,fr,hh⟩:=eH.out.o.TY e;obtain ⟨es,cl,h2,_⟩:=(dF.out.chg aW.out fun h=>h).chg cu fun e=>(iK.out _ e).1 rfl;rw [h2] at hh;cases hh
      have e1:(dn++[k]).flatMap (Q5 old nw ax tl)=dn.flatMap (Q5 old nw ax tl)++[⟨ax k,0,1⟩]:=by
       rw [List.flatMap_append];simp [Q5,HH.out.1,HH.out.2]
      rw [e1];exact h1
     case measure =>
      have hmb:mb≠rb/\mb≠bb:=⟨by have:=HM.out.lt; have:=aO.out.size; omega,l5.out⟩
      rw [aD.out.2,(fD.out.chg dE (fun e=>hmb.2 e.symm) fun e=>hmb.1 e.symm).left_eq];exact aD.out.1
    ·have hnl:(((nw k).length:Int)==0)=false:=by
      have:(nw k).length≠0:=fun e=>hn (List.eq_nil_of_length_eq_zero e);rw [beq_eq_false_iff_ne];omega
     have HH:=Hd (And.intro ho hn);clear ho hn
     go_wp2_with (at_lookup; go_loud (refine WR (dF.out.chg ((Chg.refl (fun _=>False) w6).alloc _) fun h=>h) rfl _ _ rfl underlying426 underlying9 (Xe _) k _ bL rfl rfl ?_))
     obtain ⟨ww,gL⟩:∃ x,x=((w6.alloc (.cells #[.slice aY (QQ ks q.1).length aZ,.slice IA (nw k).length ic,.slice TA told.length tcp] 431)).alloc (.cells #[.slice XA fw.length xc,.slice OA (old k).length oc,.slice YA (ax k).length yc] 431)):=⟨_,rfl⟩
     rw [<- gL]
     have kC:(ww.heap[w6.heap.size]? = some (.cells #[.slice aY (QQ ks q.1).length aZ,.slice IA (nw k).length ic,.slice TA told.length tcp] 431 (0,0))/\ww.heap[w6.heap.size+1]? = some (.cells #[.slice XA fw.length xc,.slice OA (old k).length oc,.slice YA (ax k).length yc] 431 (0,0)))/\Chg (fun _=>False) w6 ww/\ww.heap.size=w6.heap.size+2:=by
      subst gL;exact ⟨Qz (Chg.refl _ _),((Chg.refl _ _).alloc _).alloc _,by show ((w6.heap.push _).push _).size=_; rw [Array.size_push,Array.size_push]⟩
     obtain ⟨⟨hgb,bD⟩,hcW,hszW⟩:=kC;have HOW:=Hd (iV.out.chg hcW (fun _ h=>h.elim) fun _ h=>h.elim);have dK:=Hd hszW;have aW:=Hd hcW;have j5:=Hd hgb;clear gL hszW bL;obtain ⟨_,_,uG⟩:=Z1 bD;have dQ:(ww.drew).cell? ⟨w6.heap.size+1,2,none⟩=some (.slice YA (ax k).length yc):=uG;refine Zh [2] (S:=fun wx=>wx.cell? ⟨(w6.heap.size+1),2,none⟩=some (.slice YA (ax k).length yc)) (by kernel_rfl) dQ (fun hHeld => ?_);refine tkP 0 (some 47) ?_;refine tkP 1 (some 48) ?_;refine tkG 2 (some 49) ?_;refine Zg (rs:=[3]) (by kernel_rfl) (by simp) ?_;refine Zc.cons rfl (fun K hK => ?_) Zc.nil;go_simp;refine (gJ _).mono ?_;rintro _ dR ⟨rfl,kJ⟩;have gT:=kJ.cell dQ (fun h=>h);refine hK.out _ _ ?_ ?_
     ·(intro _; exact gT)
     clear hK K
     try simp only [Act.put,List.setIfInBounds_toArray,List.set_cons_zero,List.set_cons_succ]
     refine tkP 4 (some 51) ?_;refine Zg (rs:=[5]) (by kernel_rfl) (by simp) ?_;refine Zc.cons rfl (fun K hK => ?_) Zc.nil;go_simp;have gU:(dR.alloc (.cells #[.slice YA (ax k).length yc,.complex .f64 (fl 0) (fl 1)] 59)).cell? ⟨(w6.heap.size+1),2,none⟩=some (.slice YA (ax k).length yc):=((Chg.refl (fun _=>False) dR).alloc _).cell gT (fun h=>h);refine hK.out _ _ ?_ ?_
     ·(intro _; exact gU)
     clear hK K
     try simp only [Act.put,List.setIfInBounds_toArray,List.set_cons_zero,List.set_cons_succ]
     refine Zg (rs:=[6]) (by kernel_rfl) (by simp) ?_;refine Zc.cons rfl (fun K hK => ?_) Zc.nil;have oM:=Hd (X0 dR (.slice YA (ax k).length yc) (.complex .f64 (fl 0) (fl 1)) 59);have aV:Chg (fun _=>False) ww dR:=((Chg.refl (fun _=>False) ww).drew).trans kJ fun _ _ h=>h;have gV:=Hd (HOW.out.o.chg (aV.alloc (.cells #[.slice YA (ax k).length yc,.complex .f64 (fl 0) (fl 1)] 59)) fun _ _ h=>h);refine Q6 rfl _ _ 44 44 rfl 59 2 40 VB own _ L c 1 (ZG ps) [.slice YA (ax k).length yc,.complex .f64 (fl 0) (fl 1)] _ rfl rfl gV.out (XK.slice oM.out) (by simp [Value.oneCell']) (L+1) rfl ?_ ?_ ?_
     ·have:=HOW.out.len; have:=HOW.out.few; omega
     ·have:=HOW.out.len; have:=HOW.out.few; omega
     intro bX Ba ca va dG dS aR;have oN:=Hd dG;clear dG;have gW:∀ b,own=some b->b≠(w6.heap.size+1):=fun b hb=>(by have:=HOWN.out b hb; omega)
     have gX:=aR.cell gU (fun h=>gW _ h rfl);go_simp;refine hK.out _ _ ?_ ?_
     ·(intro _; exact gX)
     clear hK K
     try simp only [Act.put,List.setIfInBounds_toArray,List.set_cons_zero,List.set_cons_succ]
     refine tkP 7 (some 9) ?_;refine Zr (by kernel_rfl) ?_ _
     have kK:(ax k).length<=1000000:=by
      have h1:=(bF.out.r q HQ.out.1).1;rw [<- HQ.out.2.1] at h1;have:=Xd (h1 HH.out.1);omega
     have dP:=aV.size;have eH:=Hd (HOW.out.push (x:=⟨ax k,0,1⟩) (aV.alloc (.cells #[.slice YA (ax k).length yc,.complex .f64 (fl 0) (fl 1)] 59)) oN.out dS (Nat.le_trans (show w4.heap.size<=dR.heap.size by have:=dK.out; omega) ((Chg.refl (fun _=>False) dR).alloc _).size) aR ⟨((zF.out.mono fun b hb _=>hb.1).Zf aW.out).Zf (aV.alloc _),Nat.zero_le _,(show 1<=1125899906842624 by decide),kK⟩ (by have:=gK.out; omega));have cu:Chg (fun b=>own=some b) ww va:=((aV.alloc _).mono fun _ _ h=>h.elim).trans aR fun _ _ h=>h;have fB:=cu.heap hgb fun e=>by have:=HOWN.out _ e; omega
     have hpw:p<w.heap.size:=World.block_lt_of_cell? w _ HF.out.c2
     have kL:va.cell? ⟨p,2,none⟩=some (.map (some mb)):=cu.cell (aW.out.cell hp2 fun h=>h) fun e=>by
      have h1:w4.heap.size<=p:=iV.out.n _ e;have h2:=aO.out.size;omega
     have fC:QA va mb dD:=(dF.out.chg aW.out fun h=>h).chg cu fun e=>(iK.out _ e).1 rfl;have fD:=Hd ((HI2.out.chg aW.out (fun h=>h) fun h=>h).chg cu (fun e=>(iK.out _ e).2.2 rfl) fun e=>(iK.out _ e).2.1 rfl);have bq:Chg (fun i=>i=mb) w4 va:=(((kz.out.trans aW.out fun _ _ h=>h.elim).mono (T':=fun i=>i=mb\/w4.heap.size<=i) fun i hi h=>by omega).trans cu fun i hi e => .inr (iV.out.n _ e)).mono fun i hi h=>by omega
     have gY:∀ b,bX=some b->b≠w6.heap.size:=fun b hb=>by
      rcases dS with e | e
      ·rw [e] at hb; have:=HOWN.out b hb; omega
      ·rw [e] at hb; injection hb with hb; have h8:=((Chg.refl (fun _=>False) dR).alloc (.cells #[.slice YA (ax k).length yc,.complex .f64 (fl 0) (fl 1)] 59)).size; have:=dK.out; omega
     have gZ:=cu.size
     have ib:∀ b,bX=some b->b≠mb/\b≠rb/\b≠bb:=fun b hb=>by
      obtain ⟨cs,t,fr,hh⟩:=eH.out.o.TY hb;have h1:=fD.out.Ff hh;refine ⟨fun e => ?_,h1.1,h1.2⟩;obtain ⟨es,cl,h2,_⟩:=fC;rw [e,h2] at hh;cases hh
     have fe:p<va.heap.size:=by have:=dK.out; omega
     have oz:w6.heap.size<va.heap.size:=by have:=dK.out; omega
     have l7:=Hd (And.intro cu (And.intro bq (And.intro gY ib)));clear ib aV kJ oN dS aR oM gV gW gX dQ hgb bD hpw gY bq cu gZ dP hp2;obtain ⟨d0,d1,d2⟩:=Z1 fB
     go_wp2_with fail
     have oq:=eH;have HIS:=fD;have HAS:=Hd (And.intro l7.out.2.2.2 l7.out.2.2.1);have gM:=Hd l7.out.2.1;have kD:=Hd (((zD.out.mono (G:=fun b=>(b<w4.heap.size/\b≠mb)/\b<w4.heap.size) fun b hb _=>⟨hb.1,hb.1.1⟩).Zf aW.out).chg l7.out.1 fun b hb _ e=>by have:=iV.out.n _ e; omega);have ow:=fB;have s0:(va.drew).cell? ⟨p,2,none⟩=some (.map (some mb)):=kL;have oC:(va.drew).heap[w6.heap.size]? = some (.cells #[.slice aY (QQ ks q.1).length aZ,.slice IA (nw k).length ic,.slice TA told.length tcp] 431 (0,0)):=fB;obtain ⟨s1,s2,s3⟩:=Z1 oC;have oD:QA (va.drew) mb dD:=fC;refine Zh [3,5] (S:=fun wx=>wx.cell? ⟨p,2,none⟩=some (.map (some mb))/\wx.cell? ⟨w6.heap.size,0,none⟩=some (.slice aY (QQ ks q.1).length aZ)/\wx.cell? ⟨w6.heap.size,1,none⟩=some (.slice IA (nw k).length ic)/\wx.cell? ⟨w6.heap.size,2,none⟩=some (.slice TA told.length tcp)) (by kernel_rfl) ⟨s0,s1,s2,s3⟩ (fun hHeld => ?_);refine tkP 0 (some 63) ?_;refine tkP 1 (some 64) ?_;refine tkP 2 (some 65) ?_;refine tkG 3 (some 66) ?_;refine tkP 4 (some 67) ?_;refine tkG 5 (some 68) ?_;refine Zg (rs:=[6]) (by kernel_rfl) (by simp) ?_;refine Zc.ZN rfl (by kernel_rfl) (fun K hK => ?_) Zc.nil;refine S8 oD rfl _ _ _ rfl underlying426 underlying9 k (.agg #[.slice aY (QQ ks q.1).length aZ,.slice IA (nw k).length ic,.slice TA told.length tcp]) rfl rfl rfl ?_;intro w8 oF hc8 uA;refine hK.out _ _ ?_;clear hK K
     try simp only [Act.put,List.setIfInBounds_toArray,List.set_cons_zero,List.set_cons_succ]
     refine Zr (by kernel_rfl) ?_ _;have bW:Chg (fun i=>i=mb) va w8:=((Chg.refl _ va).drew).trans hc8 fun _ _ h=>h;have gP:mb≠w6.heap.size:=by have:=HM.out.lt; have:=aO.out.size; omega
     have dO:=Hd (oq.out.chg bW (fun b hb _=>hb) fun b hb e=>(HAS.out.1 b e).1 hb);have kE:=bW.heap ow fun e=>gP e.symm;obtain ⟨_,_,oG⟩:=Z1 kE;have kM:(w8.drew).cell? ⟨w6.heap.size,2,none⟩=some (.slice TA told.length tcp):=oG;have uB:=Hd oF;have gQ:=Hd bW;have uC:w6.heap.size<w8.heap.size:=lt_of_block kE;clear oF hc8 uA kE oD oC s0 s1 s2 s3 ow bW;have oH:=HAS.out.2
     go_wp2_with fail
     refine Zh [2] (S:=fun wx=>wx.cell? ⟨w6.heap.size,2,none⟩=some (.slice TA told.length tcp)) (by kernel_rfl) kM (fun hHeld => ?_);refine tkP 0 (some 69) ?_;refine tkP 1 (some 70) ?_;refine tkG 2 (some 71) ?_;refine Zg (rs:=[3]) (by kernel_rfl) (by simp) ?_;refine Zc.cons rfl (fun K hK => ?_) Zc.nil;go_simp;refine (gI _).mono ?_;rintro _ l8 ⟨rfl,uH⟩;have kN:=uH.cell kM (fun h=>h);refine hK.out _ _ ?_ ?_
     ·(intro _; exact kN)
     clear hK K
     try simp only [Act.put,List.setIfInBounds_toArray,List.set_cons_zero,List.set_cons_succ]
     refine tkP 4 (some 73) ?_;refine Zg (rs:=[5]) (by kernel_rfl) (by simp) ?_;refine Zc.cons rfl (fun K hK => ?_) Zc.nil;go_simp;have kP:(l8.alloc (.cells #[.slice TA told.length tcp,.complex .f64 (fl 1) (fl 0)] 59)).cell? ⟨w6.heap.size,2,none⟩=some (.slice TA told.length tcp):=((Chg.refl (fun _=>False) l8).alloc _).cell kN (fun h=>h);refine hK.out _ _ ?_ ?_
     ·(intro _; exact kP)
     clear hK K
     try simp only [Act.put,List.setIfInBounds_toArray,List.set_cons_zero,List.set_cons_succ]
     refine Zg (rs:=[6]) (by kernel_rfl) (by simp) ?_;refine Zc.cons rfl (fun K hK => ?_) Zc.nil;have zJ:=Hd (X0 l8 (.slice TA told.length tcp) (.complex .f64 (fl 1) (fl 0)) 59);have fE:Chg (fun _=>False) w8 l8:=((Chg.refl (fun _=>False) w8).drew).trans uH fun _ _ h=>h;have oO:=Hd (dO.out.o.chg (fE.alloc (.cells #[.slice TA told.length tcp,.complex .f64 (fl 1) (fl 0)] 59)) fun _ _ h=>h);refine Q6 rfl _ _ 44 44 rfl 59 2 40 VB bX _ (L+1) ca 1 (ZG (ps++[(.slice YA (ax k).length yc,⟨ax k,0,1⟩)])) [.slice TA told.length tcp,.complex .f64 (fl 1) (fl 0)] _ rfl rfl oO.out (XK.slice zJ.out) (by simp [Value.oneCell']) ((L+1)+1) rfl ?_ ?_ ?_
     ·have:=dO.out.len; have:=dO.out.few; omega
     ·have:=dO.out.len; have:=dO.out.few; omega
     intro uI Bb cb vb jE oP eO;have zK:=Hd jE;clear jE;have oQ:∀ b,bX=some b->b≠w6.heap.size:=fun b hb=>(HAS.out.2 b hb)
     have oU:=eO.cell kP (fun h=>oQ _ h rfl);go_simp;refine hK.out _ _ ?_ ?_
     ·(intro _; exact oU)
     clear hK K
     try simp only [Act.put,List.setIfInBounds_toArray,List.set_cons_zero,List.set_cons_succ]
     refine tkP 7 (some 9) ?_;refine Zr (by kernel_rfl) ?_ _
     have htl:told=tl k:=by
      rw [jC.out];have:(nw k).isEmpty=false:=by simpa using HH.out.2
      rw [this]; rfl
     have kI:told.length<=1000000:=by
      have h1:=(bF.out.r q HQ.out.1).2;rw [<- HQ.out.2.1] at h1;have:=Xd (h1 HH.out.2);rw [htl];omega
     have dP:=fE.size;have uF:=Hd (dO.out.push (x:=⟨told,1,0⟩) (fE.alloc (.cells #[.slice TA told.length tcp,.complex .f64 (fl 1) (fl 0)] 59)) zK.out oP (Nat.le_trans (show w4.heap.size<=l8.heap.size by have:=dO.out.o; have:=gM.out.size; have:=gQ.out.size; omega) ((Chg.refl (fun _=>False) l8).alloc _).size) eO ⟨((kD.out.mono fun b hb _=>hb.1).chg gQ.out fun b hb _ h=>hb.2 h).Zf (fE.alloc _),(show 1<=1125899906842624 by decide),Nat.zero_le _,kI⟩ (by rw [List.length_append,List.length_singleton]; have:=gK.out; omega));have oL:Chg (fun b=>bX=some b) w8 vb:=((fE.alloc _).mono fun _ _ h=>h.elim).trans eO fun _ _ h=>h;have iW:=Hd oL;clear fE uH zK oP eO zJ oO oQ oU kM kN kP oL dP gP oG
     go_wp2_with fail
     go_roundw
     case rel =>
      have hmb:mb≠rb/\mb≠bb:=⟨by have:=HM.out.lt; have:=aO.out.size; omega,l5.out⟩
      obtain ⟨hq,hkq,hlk,aN⟩:=HQ.out;refine ⟨_,cnt2,uI,Bb,(L+1)+1,cb,((ps++[(.slice YA (ax k).length yc,⟨ax k,0,1⟩)])++[(.slice TA told.length tcp,⟨told,1,0⟩)]),dn++[k],_,rfl,Hd ((HIS.out.chg gQ.out (fun e=>hmb.2 e.symm) fun e=>hmb.1 e.symm).chg iW.out (fun e=>(HAS.out.1 _ e).2.2 rfl) fun e=>(HAS.out.1 _ e).2.1 rfl),Hd (uB.out.chg iW.out fun e=>(HAS.out.1 _ e).1 rfl),Hd ?_,Hd (fq.out.step (by rw [aN]; exact fun h=>by cases h) hlk (fun x hx=>QE _ _ hx) ((Z6 _ _ _).trans ?_)),((gM.out.trans gQ.out fun _ _ h=>h).mono (T':=fun i=>i=mb\/w4.heap.size<=i) (fun i hi h => .inl h) |>.trans iW.out fun i hi e => .inr (oq.out.n _ e)).mono fun i hi h=>by omega⟩
      ·have e1:(dn++[k]).flatMap (Q5 old nw ax tl)=(dn.flatMap (Q5 old nw ax tl)++[⟨ax k,0,1⟩])++[⟨told,1,0⟩]:=by
        rw [List.flatMap_append,htl];simp [Q5,HH.out.1,HH.out.2]
       rw [e1];exact uF.out
      ·have:(nw k).isEmpty=false:=by simpa using HH.out.2
       rw [this,aN];rfl
     case measure =>
      have hmb:mb≠rb/\mb≠bb:=⟨by have:=HM.out.lt; have:=aO.out.size; omega,l5.out⟩
      rw [aD.out.2,((HIS.out.chg gQ.out (fun e=>hmb.2 e.symm) fun e=>hmb.1 e.symm).chg iW.out (fun e=>(HAS.out.1 _ e).2.2 rfl) fun e=>(HAS.out.1 _ e).2.1 rfl).left_eq];exact aD.out.1
end
section
open Go.RowKit
abbrev ZS:=List (List Vl×Int)
def ZV (ks:List Nat) (I:ZS) (k:List UInt8):ZS:=I.filter fun p=>decide (nmR ks p.1=k)
def JQ (f:ByteArray×Nat) (l:List Itm):Vl :=
 if f.1=WO then ⟨1,Zq l,[]⟩ else if f.1=TU then ⟨1,Qf f.2 l,[]⟩ else if f.1=TV then bst Vl.less (Qy f.2 l) else bst Vl.more (Qy f.2 l)
def Qp (ks:List Nat) (fs:List (ByteArray×Nat)) (I:ZS) (k:List UInt8):List Vl:=match ZV ks I k with
 | []=>[]
 | p::l=>QQ ks p.1++fs.map fun f=>JQ f (Zi (p::l))
def ZfD (r:List Vl):Prop:=∀ v∈r,VN v
structure FIn (ks:List Nat) (fs:List (ByteArray×Nat)) (I:ZS):Prop where
 sm:Sm I
 pos:∀ p∈I,0<p.2
 rn:∀ p∈I,ZfD p.1
 su:∀ p∈I,TX ks fs p.1
 few:Zq (Zi I)<=40
 big:∀ p∈I,∀ v∈p.1,-1000<=v.n/\v.n<=1000
theorem ZY {ks:List Nat} {I:ZS} {k:List UInt8} {p:List Vl×Int}:p∈ZV ks I k↔p∈I/\nmR ks p.1=k:=by
 unfold ZV;rw [List.mem_filter,decide_eq_true_iff]
theorem ZP.filter {I:ZS} (h:ZP I) (f:List Vl×Int->Bool):ZP (I.filter f) where
 row:=fun p hp=>h.row p ((List.mem_filter.1 hp).1)
 net:=fun p hp=>h.net p ((List.mem_filter.1 hp).1)
 ord:=h.ord.filter f
theorem Pa (f:List Vl×Int->Bool):∀ I:ZS,ZU (Zi (I.filter f))<=ZU (Zi I)
 | []=>Nat.le_refl _
 | p::I=>by
  have ih:=Pa f I;rw [List.filter_cons];split
  ·simp only [Zi,List.map_cons,ZU] at ih ⊢;omega
  ·simp only [Zi,List.map_cons,ZU] at ih ⊢;omega
theorem Sm.filter {I:ZS} (h:Sm I) (f:List Vl×Int->Bool):Sm (I.filter f) :=
 ⟨h.set.filter f,Nat.le_trans (List.length_filter_le _ _) h.few,Nat.le_trans (Pa f I) h.sum⟩
theorem Wm (p:List Vl×Int):(ZB p).net=p.2:=by
 simp only [ZB,Itm.net];omega
theorem YN (f:List Vl×Int->Bool):∀ {I:ZS},(∀ p∈I,0<p.2)->Zq (Zi (I.filter f))<=Zq (Zi I)
 | [],_=>Int.le_refl _
 | p::I,h=>by
  have ih:=YN f fun q hq=>h q (List.mem_cons_of_mem _ hq);have hp:=h p List.mem_cons_self;have hn:=Wm p;rw [List.filter_cons];split
  ·simp only [Zi,List.map_cons,Zq] at ih ⊢;omega
  ·simp only [Zi,List.map_cons,Zq] at ih ⊢;omega
theorem Hi (f:List Vl×Int->Bool) (g:List Vl->Bool) (hfg:∀ p,f p=g p.1) (r:List Vl):∀ I:ZS,nf (I.filter f) r=if g r then nf I r else 0
 | []=>by simp [nf]
 | p::I=>by
  have ih:=Hi f g hfg r I;rw [List.filter_cons,hfg];by_cases hpr:p.1=r
  ·subst hpr;cases hg:g p.1
   ·rw [hg] at ih;simp only [Bool.false_eq_true,if_false] at ih ⊢;exact ih
   ·rw [hg] at ih;simp only [if_true] at ih ⊢;rw [nf,nf,ih]
  ·cases hg:g p.1
   ·simp only [Bool.false_eq_true,if_false];rw [ih,nf,if_neg hpr];simp
   ·simp only [if_true];rw [nf,nf,if_neg hpr,ih];simp
theorem Yj (ks:List Nat) (I:ZS) (k:List UInt8) (r:List Vl):nf (ZV ks I k) r=if nmR ks r=k then nf I r else 0:=by
 have h:=Hi (fun p=>decide (nmR ks p.1=k)) (fun r=>decide (nmR ks r=k)) (fun _=>rfl) r I;unfold ZV;rw [h];simp
section
variable {ks:List Nat} {fs:List (ByteArray×Nat)} {I:ZS} (h:FIn ks fs I)
include h
theorem FIn.VC (k:List UInt8):Sm (ZV ks I k):=h.sm.filter _
theorem FIn.Fh (k:List UInt8):Few (ZV ks I k) :=
 ⟨(h.VC k).few,fun p hp=>Int.le_of_lt (h.pos p (ZY.1 hp).1),Int.le_trans (YN _ h.pos) h.few⟩
theorem FIn.key {p q:List Vl×Int} (hp:p∈I) (hq:q∈I) (e:nmR ks p.1=nmR ks q.1):QQ ks p.1=QQ ks q.1 :=
 MF (by simp [QQ]) (fun v hv=>h.rn p hp v (Kr (h.su p hp).2.1 hv)) (fun v hv=>h.rn q hq v (Kr (h.su q hq).2.1 hv)) e
theorem FIn.tell {p:List Vl×Int} (hp:p∈I):Qp ks fs I (nmR ks p.1)=QQ ks p.1++fs.map fun f=>JQ f (Zi (ZV ks I (nmR ks p.1))):=by
 unfold Qp;split
 ·rename_i e;have:p∈ZV ks I (nmR ks p.1):=ZY.2 ⟨hp,rfl⟩;rw [e] at this;cases this
 ·rename_i q l e;have hq:=ZY.1 (by rw [e]; exact List.mem_cons_self:q∈ZV ks I (nmR ks p.1));rw [h.key hq.1 hp hq.2,e]
end
theorem Hj (c:Nat):∀ {S:ZS},(∀ p∈S,0<=p.2)->(∀ p∈S,∀ v∈p.1,-1000<=v.n/\v.n<=1000) -> -1000*Zq (Zi S)<=Qf c (Zi S)/\Qf c (Zi S)<=1000*Zq (Zi S)
 | [],_,_=>by simp [Zi,Zq,Qf]
 | p::S,h,hb=>by
  have ih:=Hj c (S:=S) (fun q hq=>h q (List.mem_cons_of_mem _ hq)) fun q hq=>hb q (List.mem_cons_of_mem _ hq);have hp:=h p List.mem_cons_self
  have hv : -1000<=(p.1[c]?.getD ⟨0,0,[]⟩).n/\(p.1[c]?.getD ⟨0,0,[]⟩).n<=1000:=by
   cases hc:p.1[c]? with
   | none=>simp
   | some v=>exact hb p List.mem_cons_self v (List.mem_of_getElem? hc)
  have h1:=Int.mul_le_mul_of_nonneg_left hv.1 hp;have h2:=Int.mul_le_mul_of_nonneg_left hv.2 hp;have hn:=Wm p;show -1000*((ZB p).net+Zq (Zi S))<=(ZB p).net*((ZB p).row[c]?.getD ⟨0,0,[]⟩).n+Qf c (Zi S)/\(ZB p).net*((ZB p).row[c]?.getD ⟨0,0,[]⟩).n+Qf c (Zi S)<=1000*((ZB p).net+Zq (Zi S));rw [hn];have e:(ZB p).row=p.1:=rfl;rw [e];omega
theorem Hk (S:ZS) (n:Nat):(Zi S).take n=Zi (S.take n):=by simp [Zi]
theorem TZ {S:ZS} {x:Itm} (h:x∈Zi S):∃ p∈S,x.row=p.1:=by
 obtain ⟨p,hp,rfl⟩:=List.mem_map.1 h;exact ⟨p,hp,rfl⟩
theorem Zbb {f:ByteArray×Nat} {S:ZS} (hne:S≠[]) (hF:Few S) (hg:∀ p∈S,GOk p.1 f) (hr:∀ p∈S,Zj p.1=true) (hb:∀ p∈S,∀ v∈p.1,-1000<=v.n/\v.n<=1000) {F:Nat->Prop} {W:World} {lv:Value} (h:Zp F W lv (Zi S)) :
  Calls prog 490 #[.agg #[.string f.1,.int .i64 (f.2:Int)],lv] W fun e W'=>e = .returned (.tuple #[(JQ f (Zi S)).val,.bool true])/\Chg (fun _=>False) W W':=by
 obtain ⟨nm,c⟩:=f;obtain ⟨p,hp⟩:=List.exists_mem_of_ne_nil _ hne;have hlen:(Zi S).length<=4096:=by rw [Zu]; have:=hF.1; omega
 have hsum:∀ n,Zq ((Zi S).take n)<=40/\0<=Zq ((Zi S).take n):=fun n=>by
  have h1:=R0 hF.net n;have h2:=hF.2.2;exact ⟨by omega,h1.1⟩
 have hgp:=hg p hp
 have hlong:∀ x∈Zi S,∀ v∈x.row,v.s.length<=9223372036854775807:=fun x hx v hv=>by
  obtain ⟨q,hq,e⟩:=TZ hx;rw [e] at hv;have:=WQ (QX (hr q hq) v hv);omega
 by_cases h1:nm=WO
 ·subst h1;have e:JQ (WO,c) (Zi S)=⟨1,Zq (Zi S),[]⟩:=if_pos rfl;rw [e];exact D9 (c:Int) h hlen fun n _=>by have:=hsum n; omega
 ·by_cases h2:nm=TU
  ·subst h2;have e:JQ (TU,c) (Zi S)=⟨1,Qf c (Zi S),[]⟩:=by unfold JQ; rw [if_neg h1,if_pos rfl]
   rw [e];refine Za8 h hlen (fun x hx => ?_) fun n _ => ?_
   ·obtain ⟨q,hq,e⟩:=TZ hx;rcases hg q hq with h3 | ⟨_,v,hv,_⟩ | ⟨h3 | h3,_⟩
    ·exact absurd h3 h1
    ·rw [e];have:=hb q hq v (List.mem_of_getElem? hv);exact ⟨v,hv,by omega,by omega⟩
    ·exact absurd (show TU=TV from h3) (by decide)
    ·exact absurd (show TU=S7 from h3) (by decide)
   ·rw [Hk];have h3:=Hj c (S:=S.take n) (fun q hq=>hF.2.1 q (List.mem_of_mem_take hq)) fun q hq=>hb q (List.mem_of_mem_take hq);have h4:=hsum n;rw [Hk] at h4;show -1000000<=Qf c (Zi (S.take n))/\Qf c (Zi (S.take n))<=1000000;omega
  ·have fF:c<p.1.length/\(nm=TV\/nm=S7):=by
    rcases hgp with h3 | ⟨h3,_⟩ | ⟨h3,h4⟩
    ·exact absurd h3 h1
    ·exact absurd h3 h2
    ·exact ⟨h4,h3⟩
   have hrow:∀ x∈Zi S,c<x.row.length:=fun x hx=>by
    obtain ⟨q,hq,e⟩:=TZ hx;rw [e];rcases hg q hq with h3 | ⟨h3,_⟩ | ⟨h3,h4⟩
    ·exact absurd h3 h1
    ·exact absurd h3 h2
    ·exact h4
   by_cases h3:nm=TV
   ·subst h3;have e:JQ (TV,c) (Zi S)=bst Vl.less (Qy c (Zi S)):=by unfold JQ; rw [if_neg h1,if_neg h2,if_pos rfl]
    rw [e];exact Za6 h hlen hrow hlong
   ·have h4:nm=S7:=by
     rcases fF.2 with h | h
     ·exact absurd h h3
     ·exact h
    subst h4;have e:JQ (S7,c) (Zi S)=bst Vl.more (Qy c (Zi S)):=by unfold JQ; rw [if_neg h1,if_neg h2,if_neg h3]
    rw [e];exact Za7 h hlen hrow hlong
theorem EO {lt:Vl->Vl->Bool}:∀ {l:List Vl},l≠[]->bst lt l∈l
 | [],h=>absurd rfl h
 | x::l,_=>by
  show (l.foldl (fun b v=>if lt v b then v else b) x)∈x::l
  have key:∀ (l:List Vl) (b:Vl),(l.foldl (fun b v=>if lt v b then v else b) b)∈b::l:=by
   intro l
   induction l with
   | nil=>intro b; exact List.mem_cons_self
   | cons y l ih =>
    intro b;rw [List.foldl_cons];by_cases hc:lt y b=true
    ·rw [if_pos hc];rcases List.mem_cons.1 (ih y) with h2 | h2
     ·rw [h2]; exact List.mem_cons_of_mem _ List.mem_cons_self
     ·exact List.mem_cons_of_mem _ (List.mem_cons_of_mem _ h2)
    ·rw [if_neg hc];rcases List.mem_cons.1 (ih b) with h2 | h2
     ·rw [h2]; exact List.mem_cons_self
     ·exact List.mem_cons_of_mem _ (List.mem_cons_of_mem _ h2)
  exact key l x
theorem M9 {f:ByteArray×Nat} {S:ZS} (hne:S≠[]) (hg:∀ p∈S,GOk p.1 f) (hr:∀ p∈S,Zj p.1=true):(JQ f (Zi S)).right=true:=by
 obtain ⟨nm,c⟩:=f;unfold JQ;split
 ·rfl
 ·split
  ·rfl
  ·rename_i h1 h2
   have fF:∀ p∈S,c<p.1.length:=fun p hp=>by
    rcases hg p hp with h3 | ⟨h3,_⟩ | ⟨h3,h4⟩
    ·exact absurd h3 h1
    ·exact absurd h3 h2
    ·exact h4
   have hc:∀ v∈Qy c (Zi S),v.right=true:=fun v hv=>by
    obtain ⟨x,hx,rfl⟩:=List.mem_map.1 hv;obtain ⟨q,hq,e⟩:=TZ hx;rw [e,List.getElem?_eq_getElem (fF q hq)];exact QX (hr q hq) _ (List.getElem_mem _)
   have hn:Qy c (Zi S)≠[]:=fun e=>hne (by rw [RY] at e; simpa [Zi] using e);split
   ·exact hc _ (EO hn)
   ·exact hc _ (EO hn)
end
section
open Go.RowKit
structure Wn (ks:List Nat) (fs:List (ByteArray×Nat)) (I:ZS) (F:Nat->Prop) (w:World) (f:List UInt8->Option Value):Prop where
 to:∀ k v,f k=some v->∃ p∈I,k=nmR ks p.1/\Jb w F v (QQ ks p.1) (ZV ks I k) (Qp ks fs I k)
 of:∀ p∈I,f (nmR ks p.1)≠none
theorem Jb.move {w w':World} {G:Nat->Prop} {v:Value} {key:List Vl} {S:List (List Vl×Int)} {told:List Vl} (h:Jb w G v key S told) (hs:w.heap.size<=w'.heap.size) (hb:∀ k,G k->k<w.heap.size->w'.heap[k]? = w.heap[k]?):Jb w' G v key S told:=by
 obtain ⟨kv,iv,tv,e,h1,h2,h3⟩:=h.ex;exact ⟨kv,iv,tv,e,h1.move hs hb,h2.move hs hb,h3.move hs hb⟩
theorem Wn.move {ks:List Nat} {fs:List (ByteArray×Nat)} {I:ZS} {F:Nat->Prop} {w w':World} {f:List UInt8->Option Value} (h:Wn ks fs I F w f) (hs:w.heap.size<=w'.heap.size) (hb:∀ k,F k->k<w.heap.size->w'.heap[k]? = w.heap[k]?):Wn ks fs I F w' f :=
 ⟨fun k v hv=>by
  obtain ⟨p,hp,e,h1⟩:=h.to k v hv
  exact ⟨p,hp,e,h1.move hs hb⟩,h.of⟩
theorem Wn.mono {ks:List Nat} {fs:List (ByteArray×Nat)} {I:ZS} {F G:Nat->Prop} {w:World} {f:List UInt8->Option Value} (h:Wn ks fs I F w f) (hn:∀ b,F b->b<w.heap.size->G b):Wn ks fs I G w f :=
 ⟨fun k v hv=>by
  obtain ⟨p,hp,e,h1⟩:=h.to k v hv
  exact ⟨p,hp,e,h1.mono hn⟩,h.of⟩
def Wo (ks:List Nat) (fs:List (ByteArray×Nat)) (I:ZS) (F:Nat->Prop) (w:World) (o:Obj):Prop:=∃ es clock f,o = .map es clock/\KY es clock f/\Wn ks fs I F w f
theorem Wo.empty (ks:List Nat) (fs:List (ByteArray×Nat)) (F:Nat->Prop) (w:World) (c:Nat):Wo ks fs [] F w (.map #[] c) :=
 ⟨#[],c,fun _=>none,rfl,KY.empty c,fun k v h=>(by cases h),fun p h=>(by cases h)⟩
structure T0 (ks:List Nat) (fs:List (ByteArray×Nat)) (I D I' O:ZS):Prop where
 i:FIn ks fs I
 i':FIn ks fs I'
 n0:0<ks.length+fs.length
 n6:ks.length+fs.length<=6
 d:Sm D
 dn:∀ p∈D,ZfD p.1
 ds:∀ p∈D,TX ks fs p.1
 nd:(D.map fun p=>nmR ks p.1).Nodup
 ad:∀ r,nf I' r=nf I r+nf D r
 KS:∃ KS:List (List UInt8),(∀ p∈I,nmR ks p.1∈KS)/\KS.length+D.length<=12
 o:Sm O
 on:∀ r,nf O r=Qs ((D.map fun p=>nmR ks p.1).flatMap (Q5 (ZV ks I) (ZV ks I') (Qp ks fs I) (Qp ks fs I'))) r
section
variable {ks:List Nat} {fs:List (ByteArray×Nat)} {I D I' O:ZS} (h:T0 ks fs I D I' O)
include h
theorem T0.one {p:List Vl×Int} (hp:p∈D) (r:List Vl):nf D r=nf [p] r\/nmR ks r≠nmR ks p.1:=by
 by_cases hr:nmR ks r=nmR ks p.1
 ·refine .inl ?_
  have key:∀ {E:ZS},(E.map fun p=>nmR ks p.1).Nodup->p∈E->nf E r=nf [p] r:=by
   intro E
   induction E with
   | nil=>intro _ h; cases h
   | cons q E ih =>
    intro hn hm;obtain ⟨h1,h2⟩:=List.nodup_cons.1 (show (nmR ks q.1::E.map fun p=>nmR ks p.1).Nodup from hn);rcases List.mem_cons.1 hm with rfl | hm
    ·have:nf E r=0:=T2 fun x hx e=>h1 (List.mem_map.2 ⟨x,hx,by rw [e]; exact hr⟩);rw [nf,nf,this];rfl
    ·have hne:q.1≠r:=fun e=>h1 (List.mem_map.2 ⟨p,hm,by rw [e]; exact hr.symm⟩);rw [nf,if_neg hne,ih h2 hm];omega
  exact key h.nd hp
 ·exact .inr hr
theorem T0.grp {p:List Vl×Int} (hp:p∈D) (r:List Vl):nf (ZV ks I' (nmR ks p.1)) r=nf (ZV ks I (nmR ks p.1)) r+nf [p] r:=by
 rw [Yj,Yj];rcases h.one hp r with e | e
 ·by_cases hr:nmR ks r=nmR ks p.1
  ·rw [if_pos hr,if_pos hr,h.ad,e]
  ·rw [if_neg hr,if_neg hr,nf,if_neg fun e=>hr (by rw [e])];rfl
 ·rw [if_neg e,if_neg e,nf,if_neg fun e2=>e (by rw [e2])];rfl
theorem T0.same {k:List UInt8} (hk:∀ p∈D,k≠nmR ks p.1):ZV ks I' k=ZV ks I k:=by
 refine ZP.uniq (h.i'.VC k).set (h.i.VC k).set fun r => ?_;rw [Yj,Yj];by_cases hr:nmR ks r=k
 ·have:nf D r=0:=T2 fun x hx e=>hk x hx (by rw [e,hr]);rw [if_pos hr,if_pos hr,h.ad,this];omega
 ·rw [if_neg hr,if_neg hr]
omit h in
theorem T0.old {p:List Vl×Int} {w:World} {G:Nat->Prop} {f:List UInt8->Option Value} (hF:Wn ks fs I G w f) (hp:p∈D) :
  ∃ x va y key,(f (nmR ks p.1)).getD ZfA = .agg #[x,va,y]/\Zm G w x key/\Zp G w va (Zi (ZV ks I (nmR ks p.1)))/\Zm G w y (Qp ks fs I (nmR ks p.1)):=by
 cases hf:f (nmR ks p.1) with
 | none =>
  have e:ZV ks I (nmR ks p.1)=[]:=by
   refine List.eq_nil_iff_forall_not_mem.2 fun q hq => ?_;obtain ⟨h1,h2⟩:=ZY.1 hq;exact hF.of q h1 (by rw [h2]; exact hf)
  refine ⟨_,_,_,[],rfl,Zm.Xt _ _,?_,?_⟩
  ·rw [e]; exact Zp.Xt _ _
  ·unfold Qp; rw [e]; exact Zm.Xt _ _
 | some v =>
  obtain ⟨q,hq,e,hg⟩:=hF.to _ v hf;obtain ⟨kv,iv,tv,rfl,h1,h2,h3⟩:=hg.ex;exact ⟨kv,iv,tv,_,rfl,h1,h2,h3⟩
theorem T0.Zia {p q:List Vl×Int} (hp:p∈D) (hq:q∈I') (e:nmR ks q.1=nmR ks p.1):QQ ks q.1=QQ ks p.1 :=
 MF (by simp [QQ]) (fun v hv=>h.i'.rn q hq v (Kr (h.i'.su q hq).2.1 hv)) (fun v hv=>h.dn p hp v (Kr (h.ds p hp).2.1 hv)) e
theorem VD {J:ZS} (hJ:FIn ks fs J) {k:List UInt8} (hne:ZV ks J k≠[]):Zj (Qp ks fs J k)=true:=by
 obtain ⟨q,hq⟩:=List.exists_mem_of_ne_nil _ hne;obtain ⟨h1,h2⟩:=ZY.1 hq;subst h2;rw [hJ.tell h1];have hl:(QQ ks q.1++fs.map fun f=>JQ f (Zi (ZV ks J (nmR ks q.1)))).length=ks.length+fs.length:=by simp [QQ]
 have hr:∀ v∈QQ ks q.1++fs.map (fun f=>JQ f (Zi (ZV ks J (nmR ks q.1)))),v.right=true:=fun v hv=>by
  rcases List.mem_append.1 hv with hv | hv
  ·exact QX (hJ.su q h1).2.2 v (Kr (hJ.su q h1).2.1 hv)
  ·obtain ⟨f,hf,rfl⟩:=List.mem_map.1 hv;exact M9 hne (fun x hx=>(hJ.su x (ZY.1 hx).1).1 f hf) fun x hx=>(hJ.su x (ZY.1 hx).1).2.2
 unfold Zj;rw [hl];have h0:=h.n0;have h6:=h.n6
 have:(QQ ks q.1++fs.map fun f=>JQ f (Zi (ZV ks J (nmR ks q.1)))).any (fun x => !x.right)=false:=by
  rw [List.any_eq_false];intro v hv;rw [hr v hv]
  decide
 rw [this];simp;omega
theorem T0.ZlT {w:World} {G:Nat->Prop} {f:List UInt8->Option Value} (hF:Wn ks fs I G w f):Zkr w G ks fs f D (ZV ks I) (ZV ks I') (Qp ks fs I) (Qp ks fs I') where
 o:=fun p hp=>T0.old hF hp
 l:=fun p hp=>by
  unfold nmR nameOf;rw [List.length_append,ZH];have hk:(QQ ks p.1).length<=6:=by have:=h.n6; simp only [QQ,List.length_map]; omega
  have h1:∀ {r:List Vl},(∀ v∈r,v.s.length<=40)->(r.flatMap KJ).length<=r.length*50:=by
   intro r
   induction r with
   | nil=>intro _; simp
   | cons v r ih =>
    intro hr;rw [List.flatMap_cons,List.length_append,List.length_cons];have h2:=ih fun u hu=>hr u (List.mem_cons_of_mem _ hu);have h3:=hr v List.mem_cons_self
    have h4:(KJ v).length<=50:=by
     unfold KJ;rw [List.length_append,ZH];split
     ·rw [ZH]; omega
     ·rw [List.length_append,ZH]; omega
    omega
  have h2:=h1 fun v hv=>WQ (QX (h.ds p hp).2.2 v (Kr (h.ds p hp).2.1 hv));omega
 t:=fun p hp hn=>by
  obtain ⟨q,hq⟩:=List.exists_mem_of_ne_nil _ hn;obtain ⟨q1,q2⟩:=ZY.1 hq;refine ⟨fun j=>(fs[j]?.map fun f=>JQ f (Zi (ZV ks I' (nmR ks p.1)))).getD ⟨0,0,[]⟩,fun j => ?_,?_,fun j f hj F W lv hlv => ?_⟩
  ·show ((fs[j]?.map fun f=>JQ f (Zi (ZV ks I' (nmR ks p.1)))).getD ⟨0,0,[]⟩).s.length<=_;cases hj:fs[j]? with
   | none=>exact Nat.zero_le _
   | some f =>
    have:=WQ (M9 hn (fun x hx=>(h.i'.su x (ZY.1 hx).1).1 f (List.mem_of_getElem? hj)) fun x hx=>(h.i'.su x (ZY.1 hx).1).2.2);show (JQ f (Zi (ZV ks I' (nmR ks p.1)))).s.length<=_;omega
  ·rw [<- q2,h.i'.tell q1,h.Zia hp q1 q2]
   congr 1
   refine List.ext_getElem? fun j => ?_;rw [List.getElem?_map,List.getElem?_map];by_cases hj:j<fs.length
   ·rw [List.getElem?_range hj,List.getElem?_eq_getElem hj];simp [hj]
   ·rw [List.getElem?_eq_none (by omega),List.getElem?_eq_none (by simp; omega)];rfl
  ·have e:(fs[j]?.map fun f=>JQ f (Zi (ZV ks I' (nmR ks p.1)))).getD ⟨0,0,[]⟩=JQ f (Zi (ZV ks I' (nmR ks p.1))):=by rw [hj]; rfl
   simp only [e];exact Zbb hn (h.i'.Fh _) (fun x hx=>(h.i'.su x (ZY.1 hx).1).1 f (List.mem_of_getElem? hj)) (fun x hx=>(h.i'.su x (ZY.1 hx).1).2.2) (fun x hx=>h.i'.big x (ZY.1 hx).1) hlv
 z:=fun p hp=>⟨h.i.VC _,by
  have hz:=h.d;refine ⟨⟨fun q hq => ?_,fun q hq => ?_,List.pairwise_singleton _ _⟩,by simp,?_⟩
  ·rw [List.mem_singleton.1 hq]; exact hz.set.row p hp
  ·rw [List.mem_singleton.1 hq]; exact hz.set.net p hp
  ·have h1:=Cf (List.mem_map_of_mem hp:ZB p∈Zi D);have h2:=hz.sum;show (ZB p).a+(ZB p).b+0<=1000000
   exact Nat.le_trans h1 h2,h.i'.VC _,h.i'.Fh _,h.grp hp⟩
 ne:=fun p hp=>by
  by_cases h1:ZV ks I (nmR ks p.1)=[]
  ·refine .inr fun h2 => ?_;have h3:=h.grp hp p.1;rw [h1,h2] at h3;have h4:=h.d.set.net p hp;simp only [nf,if_true] at h3;omega
  ·exact .inl h1
 r:=fun p hp=>⟨fun hn=>VD h h.i hn,fun hn=>VD h h.i' hn⟩
theorem T0.few {w:World} {G:Nat->Prop} {f:List UInt8->Option Value} (hF:Wn ks fs I G w f):Lv w G f:=fun k v hv=>by
 obtain ⟨p,hp,e,hg⟩:=hF.to k v hv;exact ⟨_,_,_,hg,h.i.Fh k⟩
theorem T0.left {w w':World} {G F':Nat->Prop} {f fc:List UInt8->Option Value} {dn:List (List UInt8)} (hF:Wn ks fs I G w f) (hdn:∀ k,k∈dn↔∃ p∈D,k=nmR ks p.1) (hkeep:∀ v key S told,Jb w G v key S told->Jb w' F' v key S told)
  (h1:∀ k,k∉dn->fc k=f k) (h2:∀ p∈D,(ZV ks I' (nmR ks p.1)=[]->fc (nmR ks p.1)=none)/\(ZV ks I' (nmR ks p.1)≠[]->∃ v,fc (nmR ks p.1)=some v/\Jb w' F' v (QQ ks p.1) (ZV ks I' (nmR ks p.1)) (Qp ks fs I' (nmR ks p.1)))) :
  Wn ks fs I' F' w' fc where
 to:=fun k v hv=>by
  by_cases hk:k∈dn
  ·obtain ⟨p,hp,rfl⟩:=(hdn k).1 hk;obtain ⟨h3,h4⟩:=h2 p hp;by_cases hg:ZV ks I' (nmR ks p.1)=[]
   ·rw [h3 hg] at hv; cases hv
   ·obtain ⟨v',h5,h6⟩:=h4 hg;rw [hv] at h5;injection h5 with h5
    subst h5;obtain ⟨q,hq⟩:=List.exists_mem_of_ne_nil _ hg;obtain ⟨q1,q2⟩:=ZY.1 hq;exact ⟨q,q1,q2.symm,by rw [h.Zia hp q1 q2]; exact h6⟩
  ·rw [h1 k hk] at hv;obtain ⟨p,hp,e,hg⟩:=hF.to k v hv;have hs:=h.same (k:=k) fun q hq e2=>hk ((hdn k).2 ⟨q,hq,e2⟩);have hpm:p∈ZV ks I' k:=by rw [hs]; exact ZY.2 ⟨hp,e.symm⟩
   have ht:Qp ks fs I' k=Qp ks fs I k:=by unfold Qp; rw [hs]
   exact ⟨p,(ZY.1 hpm).1,e,by rw [hs,ht]; exact hkeep v _ _ _ hg⟩
 of:=fun p hp=>by
  by_cases hk:nmR ks p.1∈dn
  ·obtain ⟨q,hq,e⟩:=(hdn _).1 hk
   have hg:ZV ks I' (nmR ks q.1)≠[]:=fun e2=>by
    have:=ZY.2 ⟨hp,e⟩;rw [e2] at this;cases this
   obtain ⟨v,h5,_⟩:=(h2 q hq).2 hg;rw [e,h5];exact fun h=>by cases h
  ·rw [h1 _ hk];have hs:=h.same (k:=nmR ks p.1) fun q hq e2=>hk ((hdn _).2 ⟨q,hq,e2⟩);have hpm:p∈ZV ks I (nmR ks p.1):=by rw [<- hs]; exact ZY.2 ⟨hp,rfl⟩
   exact hF.of p (ZY.1 hpm).1
end
end
section
abbrev Zs:=List (List Vl×Int)
def Ql (x:List Vl) (n:Int):Zs->Zs
 | []=>[(x,n)]
 | p::S=>if Qv x p.1<0 then (x,n)::p::S else if x=p.1 then (if p.2+n=0 then S else (x,p.2+n)::S) else p::Ql x n S
theorem Na {x:List Vl} {n:Int}:∀ {S:Zs} {p:List Vl×Int},p∈Ql x n S->p.1=x\/∃ q∈S,q.1=p.1
 | [],p,h=>by rw [Ql,List.mem_singleton] at h; rw [h]; exact .inl rfl
 | q::S,p,h=>by
  rw [Ql] at h;split at h
  ·rcases List.mem_cons.1 h with rfl | h
   ·exact .inl rfl
   ·exact .inr ⟨p,h,rfl⟩
  ·split at h
   ·split at h
    ·exact .inr ⟨p,List.mem_cons_of_mem _ h,rfl⟩
    ·rcases List.mem_cons.1 h with rfl | h
     ·exact .inl rfl
     ·exact .inr ⟨p,List.mem_cons_of_mem _ h,rfl⟩
   ·rcases List.mem_cons.1 h with rfl | h
    ·exact .inr ⟨p,by simp,rfl⟩
    ·rcases Na h with h1 | ⟨q',h1,h2⟩
     ·exact .inl h1
     ·exact .inr ⟨q',List.mem_cons_of_mem _ h1,h2⟩
theorem X5 (x:List Vl) (n:Int) (r:List Vl):∀ S:Zs,nf (Ql x n S) r=nf S r+if x=r then n else 0
 | []=>by simp [Ql,nf]
 | p::S=>by
  rw [Ql];split
  ·rw [nf,Int.add_comm]
  ·split
   ·rename_i h;split
    ·rw [nf,<- h];split <;> omega
    ·rw [nf,nf,<- h];simp only;split <;> omega
   ·rw [nf,nf,X5 x n r S];omega
theorem Nb (x:List Vl) (n:Int):∀ S:Zs,(Ql x n S).length<=S.length+1
 | []=>by simp [Ql]
 | p::S=>by
  rw [Ql];split
  ·simp
  ·split
   ·split <;> simp <;> omega
   ·have:=Nb x n S;simp only [List.length_cons];omega
theorem JX (p:List Vl×Int) (S:Zs):ZU (Zi (p::S))=p.2.natAbs+ZU (Zi S):=by
 show ZU (ZB p::Zi S)=_;rw [ZU];unfold ZB;simp only;omega
theorem R7 (x:List Vl) (n:Int):∀ S:Zs,ZU (Zi (Ql x n S))<=ZU (Zi S)+n.natAbs
 | []=>by rw [Ql,JX]; simp [Zi,ZU]
 | p::S=>by
  rw [Ql];split
  ·rw [JX]; omega
  ·split
   ·split
    ·rw [JX]; omega
    ·rw [JX,JX];simp only;omega
   ·have:=R7 x n S;rw [JX,JX];omega
theorem P6 {x:List Vl} {n:Int} (hx:Zj x=true) (hn:n≠0):∀ {S:Zs},ZP S->ZP (Ql x n S)
 | [],_=>⟨fun p hp=>by rw [Ql,List.mem_singleton] at hp; rw [hp]; exact hx,fun p hp=>by rw [Ql,List.mem_singleton] at hp; rw [hp]; exact hn,by rw [Ql]; exact List.pairwise_singleton _ _⟩
 | p::S,h=>by
  have hp:=h.row p (by simp);have hpv:=ZZ hp;have hxv:=ZZ hx;have iX:=List.pairwise_cons.1 h.ord;rw [Ql];split
  ·rename_i h1;refine ⟨fun q hq => ?_,fun q hq => ?_,List.pairwise_cons.2 ⟨fun q hq => ?_,h.ord⟩⟩
   ·rcases List.mem_cons.1 hq with rfl | hq
    ·exact hx
    ·exact h.row q hq
   ·rcases List.mem_cons.1 hq with rfl | hq
    ·exact hn
    ·exact h.net q hq
   ·rcases List.mem_cons.1 hq with rfl | hq
    ·exact h1
    ·exact Kl hxv hpv (ZZ (h.row q (List.mem_cons_of_mem _ hq))) h1 (iX.1 q hq)
  ·rename_i h1;split
   ·rename_i h2;split
    ·exact h.tail
    ·rename_i h3;refine ⟨fun q hq => ?_,fun q hq => ?_,List.pairwise_cons.2 ⟨fun q hq => ?_,iX.2⟩⟩
     ·rcases List.mem_cons.1 hq with rfl | hq
      ·exact hx
      ·exact h.row q (List.mem_cons_of_mem _ hq)
     ·rcases List.mem_cons.1 hq with rfl | hq
      ·exact h3
      ·exact h.net q (List.mem_cons_of_mem _ hq)
     ·rw [h2]; exact iX.1 q hq
   ·rename_i h2;have ih:=P6 hx hn h.tail;refine ⟨fun q hq => ?_,fun q hq => ?_,List.pairwise_cons.2 ⟨fun q hq => ?_,ih.ord⟩⟩
    ·rcases List.mem_cons.1 hq with rfl | hq
     ·exact hp
     ·exact ih.row q hq
    ·rcases List.mem_cons.1 hq with rfl | hq
     ·exact h.net q (by simp)
     ·exact ih.net q hq
    ·rcases Na hq with h3 | ⟨q',h3,h4⟩
     ·rw [h3];have h5:Qv x p.1≠0:=fun e=>h2 ((QW hxv hpv).1 e);rw [RO hpv hxv];omega
     ·rw [<- h4];exact iX.1 q' h3
structure Bd (k:Nat) (S:Zs):Prop where
 set:ZP S
 len:S.length<=k
 sum:ZU (Zi S)<=k
theorem Bd.sm {k:Nat} {S:Zs} (h:Bd k S) (hk:k<=1000):Sm S:=⟨h.set,by have:=h.len; omega,by have:=h.sum; omega⟩
theorem Bd.nil:Bd 0 []:=⟨ZP.nil,by simp,by simp [Zi,ZU]⟩
theorem Bd.mono {k m:Nat} {S:Zs} (h:Bd k S) (hk:k<=m):Bd m S:=⟨h.set,by have:=h.len; omega,by have:=h.sum; omega⟩
theorem Bd.Ql {k:Nat} {S:Zs} (h:Bd k S) {x:List Vl} {n:Int} (hx:Zj x=true) (hn:n=1\/n = -1):Bd (k+1) (Ql x n S) :=
 ⟨P6 hx (by omega) h.set,by have:=Nb x n S; have:=h.len; omega,by have:=R7 x n S; have:=h.sum; omega⟩
theorem Um {S:Zs} (h:∀ p∈S,0<=p.2) (r:List Vl):0<=nf S r:=by
 induction S with
 | nil=>exact Int.le_refl _
 | cons p S ih =>
  rw [nf];have h1:=h p (by simp);have h2:=ih fun q hq=>h q (by simp [hq]);split <;> omega
theorem Zie {S:Zs} (h:ZP S) (hp:∀ r,0<=nf S r):∀ p∈S,0<=p.2:=fun p h1=>by
 have:=hp p.1;rw [h.Fi h1] at this;exact this
theorem Zdd {S:Zs} (h:ZP S) (hp:∀ p∈S,0<=p.2) {x:List Vl} {n:Int} (hx:Zj x=true) (hn:n≠0) (h0:0<=nf S x+n):∀ p∈Ql x n S,0<=p.2 :=
 Zie (P6 hx hn h) fun r=>by
  rw [X5];have:=Um hp r;split
  ·rename_i e; subst e; exact h0
  ·omega
theorem Hl {x:List Vl} {n:Int} (hx:Zj x=true) (hn:n=1\/n = -1):Bd 1 [(x,n)]:=Bd.Ql (S:=[]) Bd.nil hx hn
theorem R8 (x:List Vl) (n:Int) (r:List Vl):nf [(x,n)] r=if x=r then n else 0:=by simp [nf]
end
end Go.Proofs.YtheflbaejhlboaaGreatDoor
