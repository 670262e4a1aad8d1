/- Lemmas for a law of confluencetop. -/
import Derived.Test.YtheflbaejhlboaaGreatDoorTopNe15
set_option linter.all false
set_option maxHeartbeats 16000000
set_option maxRecDepth 1000000
namespace Go.Proofs.YtheflbaejhlboaaGreatDoor
open Tryz
section
open Go
theorem tkE {P:Program} {ops:Array Oper} {Q:Exit->Act->World->Prop} {md:Region.Mode} {S:World->Prop} {I:List Nat} (i:Nat) (d:Option Tmp) {v:Value} {oi:Oper} {fuel:Nat} {listed:Array Bool} {a a':Act} {w:World} (h:XX P md ops Q S I fuel (listed.setIfInBounds i true) a' w) (iQ:i∈I:=by decide) (hi:ops[i]? = some oi:=by rfl) (hd:oi.dst=d:=by rfl) (hy:YieldsIf P ops S oi v a:=by refine .inl ⟨by rfl,?_⟩; intro wx hSw; go_simp; try (with_reducible rfl)) (ha:a.put d v=a':=by simp only [Act.put,List.setIfInBounds_toArray,List.set_cons_zero,List.set_cons_succ]; rfl)
  (hs:Region.noSelect ops=true:=by kernel_rfl) (hf:Region.free md ops listed i=true:=by kernel_rfl) (hr:(Region.ready md ops listed).contains i=true:=by kernel_rfl)
  (hQ:∀ c a w,Q (.panic c) (a.put d v) w->Q (.panic c) a w:=by exact fun _ _ _ h=>h) (hS:S w:=by assumption):XX P md ops Q S I (fuel+1) listed a w:=by
 subst ha;exact Zkk d iQ hi hd hs hf hr hQ hy hS h
end
namespace Ev
open Go Go.Proofs Go.RowKit
theorem Zd4 {w:World} {rb len:Nat} {row:List Vl} {u:Bool} (h:Zm (fun b=>b=rb) w (.slice (some ⟨rb,0,none⟩) len len) row) (hx:Sz u row):rb<w.heap.size:=by
 obtain ⟨A,cap,e,_,_,h3⟩:=h
 have hl:0<row.length:=by
  cases u
  ·obtain ⟨n,m,s,rfl,_⟩:=hx;simp
  ·obtain ⟨n,m,rfl,_⟩:=hx;simp
 obtain ⟨b,off,e2,hb,hlt,_⟩:=h3 hl;injection e with e3
 rw [e2] at e3;injection e3 with e3
 injection e3 with e3
 subst e3;exact hlt
theorem Zd5:∀ b∈V4.te,∀ w,(S1 [] 0 0 (by decide) (by decide)).Q8 b (fun _=>False) w (.slice none 0 0):=by
 intro b hb w;have hb:b∈[1,2,4]:=hb;have h:Sm []/\Zp (fun _=>False) w (.slice none 0 0) (Zj []):=⟨Bd.nil.sm (by omega),Zp.Xz _ _⟩
 simp only [List.mem_cons,List.not_mem_nil,or_false] at hb;rcases hb with rfl | rfl | rfl <;> exact h
theorem ZiK:∀ b∈V4.tm,∀ w c,(S1 [] 0 0 (by decide) (by decide)).Xi b (fun _=>False) w (.map #[] c):=by
 intro b hb w c;have hb:b∈[3,5]:=hb;simp only [List.mem_cons,List.not_mem_nil,or_false] at hb;rcases hb with rfl | rfl <;> exact X1.empty _ _ _ _ c
structure mI (wr w2:World) (zb rb len:Nat) (rem:Bool) (row:List Vl):Prop where
 cell:w2.heap[zb]? = some (.cells #[.string PW,.slice (some ⟨rb,0,none⟩) len len,.bool rem] 41 (0,0))
 rw:Zm (fun b=>b=rb) w2 (.slice (some ⟨rb,0,none⟩) len len) row
 ok:UJ row
 r0:wr.heap.size<=rb
 z0:wr.heap.size<=zb
 ne:zb≠rb
 lt:rb<w2.heap.size
 chg:Chg (fun _=>False) wr w2
theorem Zmc {wr:World} {rem:Bool} {C:Nat->Nat->Nat->List Vl->World->Prop} {Q:Prop} (f:(∀ zb rb len row W,mI wr W zb rb len rem row->C zb rb len row W)->Q) (h:∀ zb rb len row W,mI wr W zb rb len rem row->C zb rb len row W):Q:=f h
theorem ZiL {wr wA:World} {rb len:Nat} {rem:Bool} {row:List Vl} (hc:Chg (fun _=>False) wr wA) (hrb:wr.heap.size<=rb) (hrow:Zm (fun b=>b=rb) wA (.slice (some ⟨rb,0,none⟩) len len) row) (fq:Sz true row) :
  mI wr (wA.alloc (.cells #[.string ⟨#[117]⟩,.slice (some ⟨rb,0,none⟩) len len,.bool rem] 41)) wA.heap.size rb len rem row:=by
 have hlt:=Zd4 hrow fq;have hs:=hc.size;have ha:=(Chg.refl (fun _=>False) wA).alloc (.cells #[.string ⟨#[117]⟩,.slice (some ⟨rb,0,none⟩) len len,.bool rem] 41);exact ⟨heap_alloc_new wA _,hrow.Zf ha,fq,hrb,hs,by omega,Nat.lt_of_lt_of_le hlt ha.size,hc.alloc _⟩
theorem ZiM {wr wA:World} {rb len:Nat} {rem:Bool} {row:List Vl} {x y z:Value} (hc:Chg (fun _=>False) (wr.drew.alloc (.cells #[x,y,z] 41)) wA) (hrb:(wr.drew.alloc (.cells #[x,y,z] 41)).heap.size<=rb) (hrow:Zm (fun b=>b=rb) wA (.slice (some ⟨rb,0,none⟩) len len) row) (fq:Sz true row) :
  mI wr (((wA.setCell ⟨wr.heap.size,0,none⟩ (.string ⟨#[117]⟩)).setCell ⟨wr.heap.size,1,none⟩ (.slice (some ⟨rb,0,none⟩) len len)).setCell ⟨wr.heap.size,2,none⟩ (.bool rem)) wr.heap.size rb len rem row:=by
 have hlt:=Zd4 hrow fq;have hd:Chg (fun _=>False) wr wr.drew:=(Chg.refl _ wr).drew;have e1:(wr.drew.alloc (.cells #[x,y,z] 41)).heap.size=wr.heap.size+1:=Array.size_push _;rw [e1] at hrb;have hz:wA.heap[wr.heap.size]? = some (.cells #[x,y,z] 41 (0,0)):=hc.heap (heap_alloc_new wr.drew _) fun h=>h
 have h2:Chg (fun k=>k=wr.heap.size) wA (((wA.setCell ⟨wr.heap.size,0,none⟩ (.string ⟨#[117]⟩)).setCell ⟨wr.heap.size,1,none⟩ (.slice (some ⟨rb,0,none⟩) len len)).setCell ⟨wr.heap.size,2,none⟩ (.bool rem)) :=
  Chg.Z5 (T:=fun k=>k=wr.heap.size) (Chg.Z5 (T:=fun k=>k=wr.heap.size) (Chg.Z5 (T:=fun k=>k=wr.heap.size) (Chg.refl _ _) (D:=wr.heap.size) rfl 0 _) (D:=wr.heap.size) rfl 1 _) (D:=wr.heap.size) rfl 2 _
 refine ⟨?_,hrow.chg h2 fun b hb _=>by omega,fq,by omega,Nat.le_refl _,by omega,Nat.lt_of_lt_of_le hlt h2.size,(((hd.alloc _).trans hc fun _ _ h=>h).trans h2 fun i hi e=>by omega)⟩;rw [heap_setCell_same _ _ 2 _ _ _ (by rw [heap_setCell_same _ _ 1 _ _ _ (by rw [heap_setCell_same _ _ 0 _ _ _ hz])])];rfl
theorem Zac {w:World} {e:TypeId} {k:Nat} {own:Option Nat} {A:Option Addr} {n cap:Nat} {xs:List Value} (h:QD w e k own A n cap xs):∀ g,own=some g->g<w.heap.size:=fun g hg=>by
 rcases h.2.2 with ⟨h1,_⟩ | ⟨g',cur,h1,_,h2,_⟩
 ·rw [h1] at hg; cases hg
 ·rw [h1] at hg;injection hg with hg
  subst hg;exact lt_of_block h2
theorem CU (w:World) (x y:Value) (t:TypeId):CsK (w.alloc (.cells #[x,y] t)) (fun b=>b=w.heap.size) 2 (some ⟨w.heap.size,0,none⟩) 1 [x,y]:=by
 have h:=heap_alloc_new w (.cells #[x,y] t)
 exact ⟨rfl,fun _=>⟨_,0,rfl,rfl,lt_of_block h,fun j u hu=>by
  match j,hu with
  | 0,hu=>simp at hu; subst hu; rw [cell_of_row _ _ _ _ _ _ h]; rfl
  | 1,hu=>simp at hu; subst hu; rw [cell_of_row _ _ _ _ _ _ h]; rfl
  | j+2,hu=>simp at hu⟩⟩
theorem mI.Zmd {wr w2:World} {zb rb len:Nat} {rem:Bool} {row:List Vl} (h:mI wr w2 zb rb len rem row):∃ n m:Int,row=uR (n,m)/\len=2/\((-3<=n/\n<=3) /\ -3<=m/\m<=3)/\w2.cell? ⟨rb,1,none⟩=some (.int .i64 n)/\w2.cell? ⟨rb,4,none⟩=some (.int .i64 m):=by
 obtain ⟨n,m,e,h1,h2⟩:=h.ok;obtain ⟨A,cap,e1,_,_,h3⟩:=h.rw;subst e;obtain ⟨b,off,e2,hb,_,hx⟩:=h3 (by simp);injection e1 with e3 e4 e5
 rw [e2] at e3;injection e3 with e3
 injection e3 with e6 e7
 subst e6 e7;obtain ⟨_,c1,_,_⟩:=hx 0 ⟨1,n,[]⟩ rfl;obtain ⟨_,c4,_,_⟩:=hx 1 ⟨1,m,[]⟩ rfl;exact ⟨n,m,rfl,e4,⟨h1,h2⟩,c1,c4⟩
def YU (w:World) (B:Nat) (N:Nat->Int):Prop:=∃ cur,w.heap[B]? = some (.cells cur 65 (0,0))/\cur.size=7/\∀ j,j<7->cur[j]? = some (.int .i64 (N j))
theorem YU.cell {w:World} {B:Nat} {N:Nat->Int} (h:YU w B N) {j:Nat} (hj:j<7):w.cell? ⟨B,j,none⟩=some (.int .i64 (N j))/\w.frozen? ⟨B,j,none⟩=false:=by
 obtain ⟨cur,h1,h2,h3⟩:=h;exact ⟨by rw [cell_of_row w B j cur _ (0,0) h1]; exact h3 j hj,frozen_of_row w B j cur _ h1⟩
theorem YU.set {w:World} {B:Nat} {N:Nat->Int} (h:YU w B N) {j:Nat} (v:Int):YU (w.setCell ⟨B,j,none⟩ (.int .i64 v)) B (fun i=>if i=j then v else N i):=by
 obtain ⟨cur,h1,h2,h3⟩:=h;refine ⟨_,heap_setCell_same w B j cur _ (.int .i64 v) h1,by simp [h2],fun i hi => ?_⟩;rw [Array.getElem?_setIfInBounds];by_cases e:j=i
 ·subst e;rw [if_pos rfl,if_pos (by omega)];simp
 ·rw [if_neg e];have e2:¬ i=j:=fun e2=>e e2.symm;simp only [e2,if_false];exact h3 i hi
theorem YU.chg {T:Nat->Prop} {w w':World} {B:Nat} {N:Nat->Int} (h:YU w B N) (hc:Chg T w w') (hn:¬ T B):YU w' B N:=by
 obtain ⟨cur,h1,h2⟩:=h;exact ⟨cur,hc.heap h1 hn,h2⟩
theorem YU.lt {w:World} {B:Nat} {N:Nat->Int} (h:YU w B N):B<w.heap.size:=by
 obtain ⟨cur,h1,_⟩:=h;exact lt_of_block h1
theorem YU.congr {w:World} {B:Nat} {N M:Nat->Int} (h:YU w B N) (e:∀ i,i<7->N i=M i):YU w B M:=by
 obtain ⟨cur,h1,h2,h3⟩:=h;exact ⟨cur,h1,h2,fun j hj=>by rw [<- e j hj]; exact h3 j hj⟩
theorem Zd6 (w:World):YU (w.alloc (.cells #[.int .i64 0,.int .i64 0,.int .i64 0,.int .i64 0,.int .i64 0,.int .i64 0,.int .i64 0] 65)) w.heap.size (fun _=>0) :=
 ⟨_,heap_alloc_new w _,rfl,fun j hj=>by
  match j,hj with
  | 0,_=>rfl
  | 1,_=>rfl
  | 2,_=>rfl
  | 3,_=>rfl
  | 4,_=>rfl
  | 5,_=>rfl
  | 6,_=>rfl
  | j+7,hj=>omega⟩
theorem Vk.inv {H T:Nat->Prop} {g:Value} {n:Nat} {Z:Zs} {w:World} (h:Vk H T g n Z w):SJ n Z:=by
 obtain ⟨_,_,_,hi,_⟩:=h;exact hi
theorem Vk.Zf {H T:Nat->Prop} {g:Value} {n:Nat} {Z:Zs} {w w':World} {C:Nat->Prop} (h:Vk H T g n Z w) (hc:Chg C w w') (hH:∀ k,H k->¬ C k) (hT:∀ k,T k->¬ C k):Vk H T g n Z w':=by
 obtain ⟨y,hx,hy,hi,K⟩:=h;exact ⟨y,hx,hy,hi,K.Zf hc hH hT⟩
theorem Wo.Zf {H T:Nat->Prop} {g:Value} {n:Nat} {Z:Zs} {w w':World} {C:Nat->Prop} (h:Wo H T g n Z w) (hc:Chg C w w') (hH:∀ k,H k->¬ C k) (hT:∀ k,T k->¬ C k):Wo H T g n Z w':=by
 obtain ⟨hx,hy,hi,K⟩:=h;exact ⟨hx,hy,hi,K.Zf hc hH hT⟩
theorem Wo.low {H T:Nat->Prop} {g:Value} {n:Nat} {Z:Zs} {w:World} (h:Wo H T g n Z w):Wo (fun j=>H j/\j<w.heap.size) (fun j=>T j/\j<w.heap.size) g n Z w:=by
 obtain ⟨hx,hy,hi,K⟩:=h;exact ⟨hx,hy,hi,K.mono (fun k hk hl=>⟨hk,hl⟩) fun k hk hl=>⟨hk,hl⟩⟩
theorem Vk.low {H T:Nat->Prop} {g:Value} {n:Nat} {Z:Zs} {w:World} (h:Vk H T g n Z w):Vk (fun j=>H j/\j<w.heap.size) (fun j=>T j/\j<w.heap.size) g n Z w:=by
 obtain ⟨y,hx,hy,hi,K⟩:=h;exact ⟨y,hx,hy,hi,K.mono (fun k hk hl=>⟨hk,hl⟩) fun k hk hl=>⟨hk,hl⟩⟩
theorem ZfB {w:World} {A:Option Addr} {n c:Nat} (haw:∀ W,Calls prog 22 #[] W fun e W'=>e = .returned (.bool true)/\Chg (fun _=>False) W W') (h:Zad w A n c) :
  Calls prog 7 #[.slice A n c] w fun e w'=>e = .returned (.bool true)/\Chg (fun _=>False) w w':=by
 obtain ⟨hnc,hcm,pG⟩:=h;have vw:=Hd pG;clear pG;have hR:=@ZiG S0;have K0:=Kn.start (S:=S0) (T:=TT w) w;obtain ⟨s1,ct,s2,s3,b1,s4,s5,bR,call2,call3,call4,call5,jL⟩:=@UK S0 Zd1;obtain ⟨s6,b2,s7,s8,call6,call7,call8,jM⟩:=@UL S0 Zd2
 go_enter func7,ntmps7
 go_wp2_with fail
 refine (K0.call hR (fun _ _=>rfl) bR (fun us W=>call9 us W) (fun r _=>vn)).mono ?_;rintro _ w1 ⟨u1,rfl,K1,h1⟩;obtain ⟨gb,rfl⟩:=K1.ptr;have K1:=K1.low (w0:=w) (fun k hk=>hk) (Nat.le_refl _);have hc1:Chg (fun _=>False) w w1:=(Chg.refl _ w).trans h1 fun i hi hk=>by have hk:w.heap.size<=i:=hk; omega
 clear h1
 go_wp2_with fail
 refine (K1.call hR (fun _ _=>rfl) call2 (fun us W=>call13 us W) (fun r h=>vn)).mono ?_;rintro _ w2 ⟨u2,rfl,K2,h2⟩;have K2:=K2.low (w0:=w) (fun k hk=>hk) hc1.size;have hc2:Chg (fun _=>False) w w2:=hc1.trans h2 fun i hi hk=>by have hk:w.heap.size<=i:=hk; omega
 clear h2
 go_wp2_with fail
 refine (K2.call hR (fun _ _=>rfl) call3 (fun us W=>call12 us W) (us:=[.string ⟨⟨[117]⟩⟩,u2]) (fun r h=>vc vs (vc (vh h) vn))).mono ?_;rintro _ w3 ⟨u3,rfl,K3,h3⟩;have K3:=K3.low (w0:=w) (fun k hk=>hk) hc2.size;have hc3:Chg (fun _=>False) w w3:=hc2.trans h3 fun i hi hk=>by have hk:w.heap.size<=i:=hk; omega
 clear h3
 go_wp2_with fail
 refine (K3.call hR (fun _ _=>rfl) call4 (fun us W=>call11 us W) (us:=[u3,.int .i64 0,.int .i64 1]) (fun r h=>vc (vh h) (vc vi (vc vi vn)))).mono ?_;rintro _ w4 ⟨u4,rfl,K4,h4⟩;have K4:=K4.low (w0:=w) (fun k hk=>hk) hc3.size;have hc4:Chg (fun _=>False) w w4:=hc3.trans h4 fun i hi hk=>by have hk:w.heap.size<=i:=hk; omega
 clear h4
 go_wp2_with fail
 refine (K4.call hR (fun _ _=>rfl) call5 (fun us W=>call10 us W) (us:=[.pointer (some ⟨gb,0,none⟩),u4]) (fun r h=>vc (vh (vt (vt (vt h)))) (vc (vh h) vn))).mono ?_;rintro _ w5 ⟨u5,rfl,K5,h5⟩;have K5:=K5.low (w0:=w) (fun k hk=>hk) hc4.size;have dx:Chg (fun _=>False) w w5:=hc4.trans h5 fun i hi hk=>by have hk:w.heap.size<=i:=hk; omega
 clear h5;have K5:Kn S0 V2.S (TT w) w5 [.ptr 0 0] [.pointer (some ⟨gb,0,none⟩)]:=K5.view (fun r h=>vh (vt (vt (vt (vt h))))) jL (fun h=>by cases h) (fun _=>rfl) rfl (fun a b h=>by cases h) (fun b h=>by cases h) (fun a b h=>by cases h) (fun b h=>by cases h)
 go_wp2_with fail
 refine (K5.call hR (fun _ _=>rfl) call6 (fun us W=>call14 us W) (fun r h=>vc vs (vc vs vn))).mono ?_;rintro _ w6 ⟨u6,rfl,K6,h6⟩;have K6:=K6.low (w0:=w) (fun k hk=>hk) dx.size;have hc6:Chg (fun _=>False) w w6:=dx.trans h6 fun i hi hk=>by have hk:w.heap.size<=i:=hk; omega
 clear h6
 go_wp2_with fail
 refine (K6.call hR (fun _ _=>rfl) call7 (fun us W=>call11 us W) (us:=[u6,.int .i64 0,.int .i64 2]) (fun r h=>vc (vh h) (vc vi (vc vi vn)))).mono ?_;rintro _ w7 ⟨u7,rfl,K7,h7⟩;have K7:=K7.low (w0:=w) (fun k hk=>hk) hc6.size;have dM:Chg (fun _=>False) w w7:=hc6.trans h7 fun i hi hk=>by have hk:w.heap.size<=i:=hk; omega
 clear h7
 go_wp2_with fail
 refine (K7.call hR (fun _ _=>rfl) call8 (fun us W=>call10 us W) (us:=[.pointer (some ⟨gb,0,none⟩),u7]) (fun r h=>vc (vh (vt (vt h))) (vc (vh h) vn))).mono ?_;rintro _ w8 ⟨u8,rfl,K8,h8⟩;have K8:=K8.low (w0:=w) (fun k hk=>hk) dM.size;have hc8:Chg (fun _=>False) w w8:=dM.trans h8 fun i hi hk=>by have hk:w.heap.size<=i:=hk; omega
 clear h8;have K8:Kn (S1 [] 0 0 (by decide) (by decide)) V4.S (TT w) w8 [.ptr 0 0] [.pointer (some ⟨gb,0,none⟩)]:=K8.view (fun r h=>vh (vt (vt (vt h)))) jM (fun _=>rfl) (fun h=>by cases h) rfl (fun a b h=>by cases h) Zd5 (fun a b h=>by cases h) ZiK;have hw8:=hc8.size;have hst:Vk (TT w) (TT w) (.pointer (some ⟨gb,0,none⟩)) 0 [] w8:=⟨0,by decide,by decide,Jq.start _,K8.toH⟩
 clear K0 K1 K2 K3 K4 K5 K6 K7 K8 bR call2 call3 call4 call5 call6 call7 call8 jL jM hR hc1 hc2 hc3 hc4 dx hc6 dM
 go_wp2_with fail
 have hnw:=(Chg.refl (fun _=>False) w8).alloc (.cells #[.int .i64 0,.int .i64 0,.int .i64 0,.int .i64 0,.int .i64 0,.int .i64 0,.int .i64 0] 65);have vz:=Hd (Zd6 w8);have hst:=hst.low.Zf hnw (fun _ _ h=>h) fun _ _ h=>h;have hc8:=hc8.trans hnw fun _ _ h=>h;have hNw:w.heap.size<=w8.heap.size:=hw8;obtain ⟨NB,Ac⟩:∃ x,x=w8.heap.size:=⟨_,rfl⟩
 rw [<- Ac] at vz hNw hst ⊢;obtain ⟨w9,Ad⟩:∃ x,x=w8.alloc (.cells #[.int .i64 0,.int .i64 0,.int .i64 0,.int .i64 0,.int .i64 0,.int .i64 0,.int .i64 0] 65):=⟨_,rfl⟩
 rw [<- Ad] at vz hst hc8 ⊢;clear hnw Ad Ac hw8
 go_wp2_with fail
 go_loopw [5] (fun i wr=>∃ (k:Nat) (H T:Nat->Prop) (Z:Zs) (N:Nat->Int),k<=30/\i = .int .i64 k/\Hid (YU wr NB N)/\Hid (∀ i:Nat,i<7->N i=Ja Z (gN ((i:Int)-3)))/\Vk H T (.pointer (some ⟨gb,0,none⟩)) k Z wr/\Hid (¬ H NB/\¬ T NB/\∀ j,H j->w.heap.size<=j)/\Chg (fun _=>False) w wr) (fun i _=>30-(intOf i).toNat)
 case atStart=>exact ⟨0,_,_,[],fun _=>0,by omega,rfl,vz,Hd (fun i hi=>by rw [NA]; rfl),hst,Hd ⟨fun h=>Nat.lt_irrefl _ h.2,fun h=>Nat.lt_irrefl _ h.2,fun j h=>h.1⟩,hc8⟩
 case round =>
  obtain ⟨k,H,T,Z,N,aaI,rfl,qX,pI,hst',dQ,hcw⟩:=hrel;by_cases hkn:k<n/\k<30
  ·have l0:(k:Int)<(n:Int):=by omega
   have l1:(k:Int)<30:=by omega
   obtain ⟨b,off,rfl,hb,hall⟩:=vw.out (by omega);obtain ⟨tab,rv,r,rem,q0,q1,q2,hr⟩:=hall k hkn.1;have q1:=hcw.cell q1 (fun h=>h);have q2:=hcw.cell q2 (fun h=>h);have hr:=hr.Zf hcw;have HT:∀ W,Chg (fun _=>False) wr W->Calls prog 24 #[.agg #[.string ⟨#[120]⟩,rv,.bool rem]] W (Zd3 W true rem):=fun W hW=>UN (tab:=⟨#[120]⟩) (hr.Zf hW) rfl;obtain ⟨RA,aa,rfl,_⟩:=hr;clear hall q0;have HST:=Hd hst';clear hst'
   go_wp2_with fail
   have hWd:Chg (fun _=>False) wr wr.drew:=(Chg.refl _ wr).drew;have d1:wr.drew.cell? ⟨b,off+k*3+1,none⟩=some (.slice RA r.length aa):=hWd.cell q1 fun h=>h;have d2:wr.drew.cell? ⟨b,off+k*3+2,none⟩=some (.bool rem):=hWd.cell q2 fun h=>h;apply Zmc (wr:=wr) (rem:=rem)
   ·intro hK;refine R9 [0,1,2,3,4,5,6,7,8,9,10] (S:=fun wx=>wx.cell? ⟨b,off+k*3+1,none⟩=some (.slice RA r.length aa)/\wx.cell? ⟨b,off+k*3+2,none⟩=some (.bool rem)) (by kernel_rfl) ⟨d1,d2⟩ (fun hHeld => ?_);refine tkE 0 (some 35) ?_;refine tkE 1 (some 36) ?_;refine tkE 2 (some 37) ?_;refine tkE 3 (some 38) ?_;refine tkE 4 (some 39) ?_;refine tkE 5 (some 40) ?_;refine tkE 6 (some 41) ?_;refine tkE 7 (some 42) ?_;refine tkE 8 (some 43) ?_;refine tkE 9 (some 44) ?_;refine tkE 10 (some 45) ?_;refine J8 (rs:=[11,12]) (by kernel_rfl) (by simp) ?_;refine ZU.cons rfl (fun K hK => ?_) ?_
    ·skip
     go_simp;refine (HT _ hWd).mono ?_;rintro _ wA ⟨rb,len,row,rfl,hrb,hrow,fq,hA⟩;have e1:=hA.cell d1 fun h=>h;have e2:=hA.cell d2 fun h=>h
     go_wp2_with fail
     refine hK.out _ _ ?_ (fun hHeld => ?_)
     ·(first | exact ⟨e1,e2⟩ | exact ⟨((hWd.trans hA fun _ _ h=>h).alloc _).cell q1 (fun h=>h),((hWd.trans hA fun _ _ h=>h).alloc _).cell q2 (fun h=>h)⟩ | exact ⟨(hWd.alloc _).cell q1 (fun h=>h),(hWd.alloc _).cell q2 (fun h=>h)⟩)
     clear hK K
     try simp only [Act.put,List.setIfInBounds_toArray,List.set_cons_zero,List.set_cons_succ]
     refine J8 (rs:=[12]) (by kernel_rfl) (by simp) ?_;refine ZU.cons rfl (fun K hK => ?_) ZU.nil;go_simp
     skip
     refine hK.out _ _ ?_ (fun hHeld => ?_)
     ·(first | exact ⟨e1,e2⟩ | exact ⟨((hWd.trans hA fun _ _ h=>h).alloc _).cell q1 (fun h=>h),((hWd.trans hA fun _ _ h=>h).alloc _).cell q2 (fun h=>h)⟩ | exact ⟨(hWd.alloc _).cell q1 (fun h=>h),(hWd.alloc _).cell q2 (fun h=>h)⟩)
     clear hK K
     try simp only [Act.put,List.setIfInBounds_toArray,List.set_cons_zero,List.set_cons_succ]
     refine J8 (rs:=[13]) (by kernel_rfl) (by simp) ?_;refine ZU.ZW rfl (by kernel_rfl) (fun K hK => ?_) ZU.nil;go_simp;refine hK.out _ _ ?_;clear hK K
     try simp only [Act.put,List.setIfInBounds_toArray,List.set_cons_zero,List.set_cons_succ]
     refine Pj (by kernel_rfl) ?_ _;have hN:=ZiL (rem:=rem) (hWd.trans hA fun _ _ h=>h) hrb hrow fq;obtain ⟨W2,hW2⟩:∃ x,x=(wA.alloc (.cells #[.string ⟨#[117]⟩,.slice (some ⟨rb,0,none⟩) len len,.bool rem] 41)):=⟨_,rfl⟩
     rw [<- hW2] at hN ⊢;obtain ⟨zb,hzb⟩:∃ x,x=wA.heap.size:=⟨_,rfl⟩
     rw [<- hzb] at hN ⊢;exact hK zb rb len row W2 hN
    refine ZU.cons rfl (fun K hK => ?_) ?_
    ·skip
     go_simp
     skip
     refine hK.out _ _ ?_ (fun hHeld => ?_)
     ·(first | exact ⟨e1,e2⟩ | exact ⟨((hWd.trans hA fun _ _ h=>h).alloc _).cell q1 (fun h=>h),((hWd.trans hA fun _ _ h=>h).alloc _).cell q2 (fun h=>h)⟩ | exact ⟨(hWd.alloc _).cell q1 (fun h=>h),(hWd.alloc _).cell q2 (fun h=>h)⟩)
     clear hK K
     try simp only [Act.put,List.setIfInBounds_toArray,List.set_cons_zero,List.set_cons_succ]
     refine J8 (rs:=[11]) (by kernel_rfl) (by simp) ?_;refine ZU.cons rfl (fun K hK => ?_) ZU.nil;go_simp;refine (HT _ (hWd.alloc _)).mono ?_;rintro _ wA ⟨rb,len,row,rfl,hrb,hrow,fq,hA⟩;have e1:=hA.cell ((hWd.alloc _).cell q1 fun h=>h) fun h=>h;have e2:=hA.cell ((hWd.alloc _).cell q2 fun h=>h) fun h=>h;have hz:wA.heap[wr.heap.size]? = some (.cells #[.string ⟨#[]⟩,.slice none 0 0,.bool false] 41 (0,0)):=hA.heap (heap_alloc_new wr.drew _) fun h=>h;obtain ⟨z0,z1,z2⟩:=Z6 hz;have zf0:=frozen_of_row _ _ 0 _ _ hz;have zf1:=frozen_of_row _ _ 1 _ _ hz;have zf2:=frozen_of_row _ _ 2 _ _ hz
     go_wp2_with fail
     refine hK.out _ _ ?_ (fun hHeld => ?_)
     ·(first | exact ⟨e1,e2⟩ | exact ⟨((hWd.trans hA fun _ _ h=>h).alloc _).cell q1 (fun h=>h),((hWd.trans hA fun _ _ h=>h).alloc _).cell q2 (fun h=>h)⟩ | exact ⟨(hWd.alloc _).cell q1 (fun h=>h),(hWd.alloc _).cell q2 (fun h=>h)⟩)
     clear hK K
     try simp only [Act.put,List.setIfInBounds_toArray,List.set_cons_zero,List.set_cons_succ]
     refine J8 (rs:=[13]) (by kernel_rfl) (by simp) ?_;refine ZU.ZW rfl (by kernel_rfl) (fun K hK => ?_) ZU.nil;go_simp;refine hK.out _ _ ?_;clear hK K
     try simp only [Act.put,List.setIfInBounds_toArray,List.set_cons_zero,List.set_cons_succ]
     refine Pj (by kernel_rfl) ?_ _;have hN:=ZiM (rem:=rem) hA hrb hrow fq;obtain ⟨W2,hW2⟩:∃ x,x=(((wA.setCell ⟨wr.heap.size,0,none⟩ (.string ⟨#[117]⟩)).setCell ⟨wr.heap.size,1,none⟩ (.slice (some ⟨rb,0,none⟩) len len)).setCell ⟨wr.heap.size,2,none⟩ (.bool rem)):=⟨_,rfl⟩
     rw [<- hW2] at hN ⊢;obtain ⟨zb,hzb⟩:∃ x,x=wr.heap.size:=⟨_,rfl⟩
     rw [<- hzb] at hN ⊢;exact hK zb rb len row W2 hN
    exact ZU.nil
   ·intro zb rb len row w2 hN;obtain ⟨na,nb,rfl,rfl,hsm,n1,n4⟩:=hN.Zmd;obtain ⟨y,hx,hy,hi,K⟩:=HST.out;obtain ⟨P1,P2,p1,p2,p3⟩:=ZkX (rem:=rem) hi (by omega) K hN.chg hN.rw hN.r0 hN.lt hN.ok;have HN:=Hd hN;obtain ⟨z0,z1,z2⟩:=Z6 hN.cell;obtain ⟨tb,htb⟩:∃ x,x=PW:=⟨_,rfl⟩
    rw [<- htb] at p1 z0;have HTB:=Hd htb;have ku:=Hd n1;have HI:=Hd hi;clear hN K hi htb HST n1 n4
    go_wp2_with fail
    refine p1.mono ?_;rintro _ v2 ⟨x1,rfl,h1⟩
    go_wp2_with fail
    refine (p2 _ _ h1).mono ?_;rintro _ v3 ⟨x2,rfl,h2⟩
    go_wp2_with fail
    refine (p3 _ _ h2).mono ?_;rintro _ w5 ⟨v,rfl,hU,hch⟩;have hN:=HN.out;have aaJ:NB<wr.heap.size:=qX.out.lt;have hH2:Chg (fun j=>H j) wr w5:=((Chg.refl _ wr).trans hN.chg fun _ _ h=>h.elim).trans hch fun i hi hk=>hk.1;have bU:Chg (fun _=>False) w w5:=hcw.trans hH2 fun i hi hk=>by have:=dQ.out.2.2 i hk; omega
    have jf:=qX.out.chg hH2 dQ.out.1;have Ae:=hch.heap hN.cell fun h=>by have:=h.2; have:=hN.z0; omega
    have n5:=hch.cell ku.out fun h=>by have h2:rb<wr.heap.size:=h.2; have:=hN.r0; omega
    have pJ:¬ (H NB/\NB<wr.heap.size\/w2.heap.size<=NB)/\¬ (T NB/\NB<wr.heap.size\/NB=rb\/w2.heap.size<=NB)/\∀ j,(H j/\j<wr.heap.size\/w2.heap.size<=j)->w.heap.size<=j:=by
     have s1:=hN.chg.size;have s2:=hN.r0;have s3:=hcw.size;refine ⟨fun h => ?_,fun h => ?_,fun j h => ?_⟩
     ·rcases h with h | h
      ·exact dQ.out.1 h.1
      ·omega
     ·rcases h with h | h | h
      ·exact dQ.out.2.1 h.1
      ·omega
      ·omega
     ·rcases h with h | h
      ·exact dQ.out.2.2 j h.1
      ·omega
    have aQ:=Hd pJ;have HZ5:=Hd Ae;have s25:=hch.size;clear hN z0 z1 z2 Ae p1 p2 p3 h1 h2 P1 P2 pJ;rcases hU with ⟨rfl,hth,ed⟩ | ⟨rfl,hA⟩
    ·unfold qW;obtain ⟨y0,y1,y2⟩:=Z6 HZ5.out;obtain ⟨a,ha⟩:∃ a:Nat,na+3=(a:Int):=⟨(na+3).toNat,by omega⟩
     have vB:a<7:=by omega
     have hai:(a:Int)<7:=by omega
     have aaL:(0:Int)<=(a:Int):=by omega
     have hwa:IntKind.i64.wrap (na+3)=(a:Int):=by rw [ha]; exact IntWalk.i64_in _ (by omega)
     have hcnt:=Zd0 (nb:=nb) pI.out ha vB (sd !rem);have hNc:=jf.cell vB
     have hcb:0<=N a/\N a<=40:=by
      rw [pI.out a vB];have:=Rq (k:=k) (by omega) HI.out (gN ((a:Int)-3));exact ⟨this.1,this.2.1⟩
     obtain ⟨c,hc⟩:∃ c,c=N a:=⟨_,rfl⟩
     rw [<- hc] at hcnt hNc hcb;obtain ⟨v,hv⟩:∃ v,v=c+sd !rem:=⟨_,rfl⟩
     rw [<- hv] at hcnt;obtain ⟨Z',Af⟩:∃ x,x=ZO (uR (na,nb)) (sd !rem) Z:=⟨_,rfl⟩
     rw [<- Af] at hcnt ed;obtain ⟨N',hN'⟩:∃ x:Nat->Int,x=fun i=>if i=a then v else N i:=⟨_,rfl⟩
     have jN:∀ i:Nat,i<7->N' i=Ja Z' (gN ((i:Int)-3)):=by rw [hN']; exact hcnt
     have jO:YU (w5.setCell ⟨NB,a,none⟩ (.int .i64 v)) NB N':=by rw [hN']; exact jf.set v
     have mJ:=Hd jO;have qY:=Hd jN;have az:=Hd ed;have e0:=hNc.1;have e1:=hNc.2
     have hwv:(rem=false->IntKind.i64.wrap (c+1)=v)/\(rem=true->IntKind.i64.wrap (c-1)=v):=by
      refine ⟨fun h => ?_,fun h => ?_⟩
      ·subst h;rw [hv];exact IntWalk.i64_in _ (by omega)
      ·subst h;rw [hv];exact IntWalk.i64_in _ (by omega)
     clear hcnt hNc hc hv Af hN' jN jO ed hth jf ha hsm hcb;cases rem
     ·have hwv:=hwv.1 rfl
      go_wp2_with fail
      obtain ⟨w0,rfl⟩:∃ x:World,x=wr:=⟨_,rfl⟩
      have hcB:Chg (fun b=>b=NB) w5 (w5.setCell ⟨NB,a,none⟩ (.int .i64 v)):=Chg.Z5 (T:=fun b=>b=NB) (Chg.refl _ _) (D:=NB) rfl a _;have pK:=az.out.Zf hcB (fun j hj e=>aQ.out.1 (e▸hj)) fun j hj e=>aQ.out.2.1 (e▸hj);have hc6:Chg (fun _=>False) w (w5.setCell ⟨NB,a,none⟩ (.int .i64 v)):=bU.trans hcB fun i hi e=>by omega
      obtain ⟨w6,pM⟩:∃ x,x=w5.setCell ⟨NB,a,none⟩ (.int .i64 v):=⟨_,rfl⟩
      rw [<- pM] at mJ pK hc6 ⊢;obtain ⟨hx',hy',hi',K'⟩:=pK;have key:=ZhH (by omega) hi' qY.out;have HKEY:=Hd key;have vC:=Hd (show Wo _ _ _ _ Z' w6 from ⟨hx',hy',hi',K'⟩);clear hcB pM hx' hy' hi' K' key y0 y1 y2 n5 e0 e1 hwv az pI qX
      go_wp2_with fail
      go_loopw [8,7] (fun kv av wx=>∃ (j:Nat) (kk:Int) (oA:Option Nat) (BA:Option Addr) (LA cA:Nat) (pA:List PI),j<=40/\kk-1=(j:Int)/\kv = .int .i64 kk/\av = .slice BA LA cA/\LA<=j/\Hid (pA.map (·.2)=Zj (hS N' j)) /\
       Hid (QD wx 59 2 oA BA LA cA (ZD pA))/\Hid (∀ g,oA=some g->w6.heap.size<=g)/\Hid (∀ p∈pA,POk (fun b=>w6.heap.size<=b/\oA≠some b) wx p)/\Chg (fun _=>False) w6 wx) (fun kv _ _=>(41-intOf kv).toNat)
      case atStart=>exact ⟨0,1,none,none,0,0,[],by omega,rfl,rfl,rfl,Nat.le_refl _,Hd rfl,Hd (QD.Xz _ _ _ _),Hd (fun g h=>by cases h),Hd (fun p h=>by cases h),Chg.refl _ _⟩
      case round =>
       obtain ⟨j,kk,oA,BA,LA,cA,pA,vD,hj,rfl,rfl,hLA,kZ,bI,jg,lg,eu⟩:=hrel;obtain ⟨wx,rfl⟩:∃ x:World,x=wr:=⟨_,rfl⟩
       by_cases hj4:j<40
       ·have hk3:kk<=40:=by omega
        have iT:=Hd (mJ.out.chg eu fun h=>h)
        go_wp2_with fail
        go_loopw [9,10] (fun a1 a2 wy=>∃ I:Nat,I<=7/\a2 = .int .i64 I/\a1 = .int .i64 (X0 N' kk I)/\wy=wx) (fun _ a2 _=>7-(intOf a2).toNat)
        case atStart=>exact ⟨0,by omega,rfl,rfl,rfl⟩
        case round =>
         obtain ⟨I,hI,rfl,rfl,rfl⟩:=hrel;obtain ⟨wx,rfl⟩:∃ x:World,x=wr:=⟨_,rfl⟩
         by_cases hlI:I<7
         ·have lh:(I:Int)<7:=by omega
          have hI0:(0:Int)<=(I:Int):=by omega
          have hb3:=Rr N' kk I;have e0:=(iT.out.cell hlI).1;have hsc:X0 N' kk (I+1)=X0 N' kk I+if N' I=kk then 1 else 0:=rfl
          obtain ⟨S,hS⟩:∃ x,x=X0 N' kk I:=⟨_,rfl⟩
          rw [<- hS] at hsc hb3 ⊢;obtain ⟨q,hq⟩:∃ x,x=N' I:=⟨_,rfl⟩
          rw [<- hq] at hsc e0;have hwS:IntKind.i64.wrap (S+1)=S+1:=IntWalk.i64_in _ (by omega);clear hS hq;by_cases hqk:q=kk
          ·subst hqk;rw [if_pos rfl] at hsc;have ll:=Hd hsc;clear hsc
           go_wp2_with fail
           go_roundw
           case rel=>exact ⟨I+1,by omega,by go_num,by rw [ll.out],trivial⟩
           case measure=>simp [intOf]; omega
          ·rw [if_neg hqk] at hsc;have ll:=Hd hsc;have vE:(q==kk)=false:=by rw [beq_eq_false_iff_ne]; exact hqk
           clear hsc
           go_wp2_with fail
           go_roundw
           case rel=>exact ⟨I+1,by omega,by go_num,by rw [ll.out,Int.add_zero],trivial⟩
           case measure=>simp [intOf]; omega
         ·have lh:¬ (I:Int)<7:=by omega
          have vG:I=7:=by omega
          subst vG;have hsucc:=Gj N' j;rw [show (j:Int)+1=kk by omega] at hsucc;have hb3:=Rr N' kk 7;obtain ⟨S,hS⟩:∃ x,x=X0 N' kk 7:=⟨_,rfl⟩
          rw [<- hS] at hsucc hb3 ⊢;have htold:[nI kk,nI S]=[kk,S].map vlI:=rfl;rw [htold] at hsucc;have iA:=Hd hsucc;clear hsucc hS htold;by_cases h0:0<S
          ·have hax:=(Chg.refl (fun _=>False) wx).alloc (.cells #[.int .i64 kk,.int .i64 S] 2);have hnew:=heap_alloc_new wx (.cells #[.int .i64 kk,.int .i64 S] 2)
           have bz:=NH (w:=wx.alloc (.cells #[.int .i64 kk,.int .i64 S] 2)) (b:=wx.heap.size) (cap:=2) (l:=[kk,S]) (fun i x hi=>by
            rw [cell_of_row _ _ _ _ _ _ hnew]
            match i,hi with
            | 0,hi=>cases hi; rfl
            | 1,hi=>cases hi; rfl
            | i+2,hi=>simp at hi) (by simp)
           clear hnew
           go_wp2_with fail
           refine bz.mono ?_;rintro _ wA ⟨ra,rfl,hra,hA⟩;have iB:=hra;obtain ⟨RA,fJ,rfl,_⟩:=hra;have vH:=Hd iB;have hall:=hax.trans hA fun _ _ h=>h;have hab:=(Chg.refl (fun _=>False) wA).alloc (.cells #[.slice RA 2 fJ,.complex .f64 (fl 1) (fl 0)] 59);have bN:=Hd (bI.out.chg (hall.trans hab fun _ _ h=>h) fun _ _ h=>h);have H1:=Hd (CU wA (.slice RA 2 fJ) (.complex .f64 (fl 1) (fl 0)) 59);clear iB bz
           go_wp2_with (at_builtin; refine ZA rfl _ _ 45 45 rfl 59 2 40 WQ oA BA LA cA 1 (ZD pA) [.slice RA 2 fJ,.complex .f64 (fl 1) (fl 0)] _ rfl rfl bN.out (X4.slice H1.out) (by simp [Value.oneCell']) (LA+1) rfl (by omega) (by omega) ?_)
           intro pO vN vO w3 hown hor ae;have dA:=Hd hown;clear hown
           go_wp2_with fail
           go_roundw
           case rel =>
            have vQ:¬ S=0:=by omega
            have z1:(wx.alloc (.cells #[.int .i64 kk,.int .i64 S] 2)).heap.size=wx.heap.size+1:=Array.size_push _;have zA:=hA.size;have zB:(wA.alloc (.cells #[.slice RA 2 fJ,.complex .f64 (fl 1) (fl 0)] 59)).heap.size=wA.heap.size+1:=Array.size_push _;have zE:=eu.size;have gA:∀ g,oA=some g->g<wx.heap.size:=fun g e=>Zac bI.out g e
            have nA:∀ g,pO=some g->oA=some g\/g=wA.heap.size+1:=fun g e=>by
             rcases hor with h | h
             ·exact .inl (h▸e)
             ·rw [h] at e; injection e with e; exact .inr (by omega)
            have hw3:Chg (fun b=>oA=some b) wx w3:=((hall.trans hab fun _ _ h=>h).mono fun _ _ h=>h.elim).trans ae fun _ _ h=>h;refine ⟨j+1,kk+1,pO,vN,LA+1,vO,pA++[(.slice RA 2 fJ,⟨[kk,S].map vlI,1,0⟩)],by omega,by omega,by go_num,rfl,by omega,Hd ?_,Hd ?_,Hd fun g hg => ?_,Hd fun p hp => ?_,eu.trans hw3 fun i hi e => ?_⟩
            ·rw [List.map_append,kZ.out,iA.out,if_neg vQ]; rfl
            ·rw [QR];exact dA.out
            ·rcases nA g hg with h | h
             ·exact jg.out g h
             ·omega
            ·rcases List.mem_append.1 hp with hp | hp
             ·exact (((lg.out p hp).mono (G:=fun b=>(w6.heap.size<=b/\oA≠some b)/\b<wx.heap.size) fun b hb hl=>⟨hb,hl⟩).chg hw3 fun b hb _ e=>hb.1.2 e).mono fun b hb _=>⟨hb.1.1,fun e=>by
               rcases nA b e with h | h
               ·exact hb.1.2 h
               ·have:=hb.2; omega⟩
             ·rw [List.mem_singleton.1 hp];refine ⟨?_,by simp,by simp,by simp⟩;have hr1:Zm (fun b=>wx.heap.size<b/\b<wA.heap.size) wA (.slice RA 2 fJ) ([kk,S].map vlI):=vH.out.mono fun b hb hl=>⟨by have hb:(wx.alloc (.cells #[.int .i64 kk,.int .i64 S] 2)).heap.size<=b:=hb; omega,hl⟩
              exact ((hr1.chg hab fun _ _ _ h=>h).chg ae fun b hb _ e=>by have:=gA b e; omega).mono fun b hb _=>⟨by omega,fun e=>by
               rcases nA b e with h | h
               ·have:=gA b h; omega
               ·omega⟩
            ·have:=jg.out i e; omega
           case measure=>simp [intOf]; omega
          ·have h0':¬ (0:Int)<S:=by omega
           go_wp2_with fail
           go_roundw
           case rel =>
            refine ⟨j+1,kk+1,oA,BA,LA,cA,pA,by omega,by omega,by go_num,rfl,by omega,Hd ?_,bI,jg,lg,eu⟩;rw [kZ.out,iA.out,if_pos (by omega),List.append_nil]
           case measure=>simp [intOf]; omega
       ·have hj:j=40:=by omega
        subst hj;have hk4:kk=41:=by omega
        subst hk4;have aG:=kZ.out;rw [<- HKEY.out] at aG;have lq:pA.length=LA:=by have h1:=bI.out.1; rw [XH] at h1; omega
        have Vo:Zp (fun b=>w6.heap.size<=b) wx (.slice BA LA cA) (Zj (cO Z')):=aG▸(Zp.Pg (F:=fun b=>w6.heap.size<=b) (bI.out.cs.mono fun g hg _=>jg.out g hg) lq.symm bI.out.fits bI.out.Wg fun p hp=>(lg.out p hp).mono fun b hb _=>hb.1);have SA:=Hd Vo;have hAx:=vC.out.low.Zf eu (fun _ _ h=>h) fun _ _ h=>h;have hcx:=hc6.trans eu fun _ _ h=>h;have lu:=mJ.out.chg eu fun h=>h;clear Vo aG
        go_wp2_with fail
        refine (Aa (by omega) hAx).mono ?_;rintro _ w7 ⟨sv,rfl,hset,vR,eB⟩;have dM:Chg (fun _=>False) w w7:=hcx.trans eB fun i hi h=>by have:=aQ.out.2.2 i h.1; omega
        have Vo:=SA.out.chg eB fun b hb _ h=>by have:=h.2; omega
        have lC:=Hd (lu.chg eB fun h=>aQ.out.1 h.1);have lD:=Hd (show ¬ (((H NB/\NB<w0.heap.size\/w2.heap.size<=NB)/\NB<w6.heap.size)\/wx.heap.size<=NB)/\¬ (((T NB/\NB<w0.heap.size\/NB=rb\/w2.heap.size<=NB)/\NB<w6.heap.size)\/wx.heap.size<=NB)/\∀ j,(((H j/\j<w0.heap.size\/w2.heap.size<=j)/\j<w6.heap.size)\/wx.heap.size<=j)->w.heap.size<=j from ⟨fun h=>h.elim (fun h=>aQ.out.1 h.1) fun h=>by have:=lu.lt; omega,fun h=>h.elim (fun h=>aQ.out.2.1 h.1) fun h=>by have:=lu.lt; omega,fun j h=>h.elim (fun h=>aQ.out.2.2 j h.1) fun h=>Nat.le_trans hcx.size h⟩);have bR:=NI hset Vo;clear Vo hset
        go_wp2_with fail
        refine bR.mono ?_;rintro _ v3 ⟨rfl,hc3⟩
        go_wp2_with fail
        go_roundw
        case rel=>exact ⟨k+1,_,_,Z',N',by omega,by go_num,Hd (lC.out.chg hc3 fun h=>h),qY,vR.Zf hc3 (fun _ _ h=>h) fun _ _ h=>h,lD,dM.trans hc3 fun _ _ h=>h⟩
        case measure=>simp [intOf]; omega
     ·have hwv:=hwv.2 rfl
      go_wp2_with fail
      obtain ⟨w0,rfl⟩:∃ x:World,x=wr:=⟨_,rfl⟩
      have hcB:Chg (fun b=>b=NB) w5 (w5.setCell ⟨NB,a,none⟩ (.int .i64 v)):=Chg.Z5 (T:=fun b=>b=NB) (Chg.refl _ _) (D:=NB) rfl a _;have pK:=az.out.Zf hcB (fun j hj e=>aQ.out.1 (e▸hj)) fun j hj e=>aQ.out.2.1 (e▸hj);have hc6:Chg (fun _=>False) w (w5.setCell ⟨NB,a,none⟩ (.int .i64 v)):=bU.trans hcB fun i hi e=>by omega
      obtain ⟨w6,pM⟩:∃ x,x=w5.setCell ⟨NB,a,none⟩ (.int .i64 v):=⟨_,rfl⟩
      rw [<- pM] at mJ pK hc6 ⊢;obtain ⟨hx',hy',hi',K'⟩:=pK;have key:=ZhH (by omega) hi' qY.out;have HKEY:=Hd key;have vC:=Hd (show Wo _ _ _ _ Z' w6 from ⟨hx',hy',hi',K'⟩);clear hcB pM hx' hy' hi' K' key y0 y1 y2 n5 e0 e1 hwv az pI qX
      go_wp2_with fail
      go_loopw [8,7] (fun kv av wx=>∃ (j:Nat) (kk:Int) (oA:Option Nat) (BA:Option Addr) (LA cA:Nat) (pA:List PI),j<=40/\kk-1=(j:Int)/\kv = .int .i64 kk/\av = .slice BA LA cA/\LA<=j/\Hid (pA.map (·.2)=Zj (hS N' j)) /\
       Hid (QD wx 59 2 oA BA LA cA (ZD pA))/\Hid (∀ g,oA=some g->w6.heap.size<=g)/\Hid (∀ p∈pA,POk (fun b=>w6.heap.size<=b/\oA≠some b) wx p)/\Chg (fun _=>False) w6 wx) (fun kv _ _=>(41-intOf kv).toNat)
      case atStart=>exact ⟨0,1,none,none,0,0,[],by omega,rfl,rfl,rfl,Nat.le_refl _,Hd rfl,Hd (QD.Xz _ _ _ _),Hd (fun g h=>by cases h),Hd (fun p h=>by cases h),Chg.refl _ _⟩
      case round =>
       obtain ⟨j,kk,oA,BA,LA,cA,pA,vD,hj,rfl,rfl,hLA,kZ,bI,jg,lg,eu⟩:=hrel;obtain ⟨wx,rfl⟩:∃ x:World,x=wr:=⟨_,rfl⟩
       by_cases hj4:j<40
       ·have hk3:kk<=40:=by omega
        have iT:=Hd (mJ.out.chg eu fun h=>h)
        go_wp2_with fail
        go_loopw [9,10] (fun a1 a2 wy=>∃ I:Nat,I<=7/\a2 = .int .i64 I/\a1 = .int .i64 (X0 N' kk I)/\wy=wx) (fun _ a2 _=>7-(intOf a2).toNat)
        case atStart=>exact ⟨0,by omega,rfl,rfl,rfl⟩
        case round =>
         obtain ⟨I,hI,rfl,rfl,rfl⟩:=hrel;obtain ⟨wx,rfl⟩:∃ x:World,x=wr:=⟨_,rfl⟩
         by_cases hlI:I<7
         ·have lh:(I:Int)<7:=by omega
          have hI0:(0:Int)<=(I:Int):=by omega
          have hb3:=Rr N' kk I;have e0:=(iT.out.cell hlI).1;have hsc:X0 N' kk (I+1)=X0 N' kk I+if N' I=kk then 1 else 0:=rfl
          obtain ⟨S,hS⟩:∃ x,x=X0 N' kk I:=⟨_,rfl⟩
          rw [<- hS] at hsc hb3 ⊢;obtain ⟨q,hq⟩:∃ x,x=N' I:=⟨_,rfl⟩
          rw [<- hq] at hsc e0;have hwS:IntKind.i64.wrap (S+1)=S+1:=IntWalk.i64_in _ (by omega);clear hS hq;by_cases hqk:q=kk
          ·subst hqk;rw [if_pos rfl] at hsc;have ll:=Hd hsc;clear hsc
           go_wp2_with fail
           go_roundw
           case rel=>exact ⟨I+1,by omega,by go_num,by rw [ll.out],trivial⟩
           case measure=>simp [intOf]; omega
          ·rw [if_neg hqk] at hsc;have ll:=Hd hsc;have vE:(q==kk)=false:=by rw [beq_eq_false_iff_ne]; exact hqk
           clear hsc
           go_wp2_with fail
           go_roundw
           case rel=>exact ⟨I+1,by omega,by go_num,by rw [ll.out,Int.add_zero],trivial⟩
           case measure=>simp [intOf]; omega
         ·have lh:¬ (I:Int)<7:=by omega
          have vG:I=7:=by omega
          subst vG;have hsucc:=Gj N' j;rw [show (j:Int)+1=kk by omega] at hsucc;have hb3:=Rr N' kk 7;obtain ⟨S,hS⟩:∃ x,x=X0 N' kk 7:=⟨_,rfl⟩
          rw [<- hS] at hsucc hb3 ⊢;have htold:[nI kk,nI S]=[kk,S].map vlI:=rfl;rw [htold] at hsucc;have iA:=Hd hsucc;clear hsucc hS htold;by_cases h0:0<S
          ·have hax:=(Chg.refl (fun _=>False) wx).alloc (.cells #[.int .i64 kk,.int .i64 S] 2);have hnew:=heap_alloc_new wx (.cells #[.int .i64 kk,.int .i64 S] 2)
           have bz:=NH (w:=wx.alloc (.cells #[.int .i64 kk,.int .i64 S] 2)) (b:=wx.heap.size) (cap:=2) (l:=[kk,S]) (fun i x hi=>by
            rw [cell_of_row _ _ _ _ _ _ hnew]
            match i,hi with
            | 0,hi=>cases hi; rfl
            | 1,hi=>cases hi; rfl
            | i+2,hi=>simp at hi) (by simp)
           clear hnew
           go_wp2_with fail
           refine bz.mono ?_;rintro _ wA ⟨ra,rfl,hra,hA⟩;have iB:=hra;obtain ⟨RA,fJ,rfl,_⟩:=hra;have vH:=Hd iB;have hall:=hax.trans hA fun _ _ h=>h;have hab:=(Chg.refl (fun _=>False) wA).alloc (.cells #[.slice RA 2 fJ,.complex .f64 (fl 1) (fl 0)] 59);have bN:=Hd (bI.out.chg (hall.trans hab fun _ _ h=>h) fun _ _ h=>h);have H1:=Hd (CU wA (.slice RA 2 fJ) (.complex .f64 (fl 1) (fl 0)) 59);clear iB bz
           go_wp2_with (at_builtin; refine ZA rfl _ _ 45 45 rfl 59 2 40 WQ oA BA LA cA 1 (ZD pA) [.slice RA 2 fJ,.complex .f64 (fl 1) (fl 0)] _ rfl rfl bN.out (X4.slice H1.out) (by simp [Value.oneCell']) (LA+1) rfl (by omega) (by omega) ?_)
           intro pO vN vO w3 hown hor ae;have dA:=Hd hown;clear hown
           go_wp2_with fail
           go_roundw
           case rel =>
            have vQ:¬ S=0:=by omega
            have z1:(wx.alloc (.cells #[.int .i64 kk,.int .i64 S] 2)).heap.size=wx.heap.size+1:=Array.size_push _;have zA:=hA.size;have zB:(wA.alloc (.cells #[.slice RA 2 fJ,.complex .f64 (fl 1) (fl 0)] 59)).heap.size=wA.heap.size+1:=Array.size_push _;have zE:=eu.size;have gA:∀ g,oA=some g->g<wx.heap.size:=fun g e=>Zac bI.out g e
            have nA:∀ g,pO=some g->oA=some g\/g=wA.heap.size+1:=fun g e=>by
             rcases hor with h | h
             ·exact .inl (h▸e)
             ·rw [h] at e; injection e with e; exact .inr (by omega)
            have hw3:Chg (fun b=>oA=some b) wx w3:=((hall.trans hab fun _ _ h=>h).mono fun _ _ h=>h.elim).trans ae fun _ _ h=>h;refine ⟨j+1,kk+1,pO,vN,LA+1,vO,pA++[(.slice RA 2 fJ,⟨[kk,S].map vlI,1,0⟩)],by omega,by omega,by go_num,rfl,by omega,Hd ?_,Hd ?_,Hd fun g hg => ?_,Hd fun p hp => ?_,eu.trans hw3 fun i hi e => ?_⟩
            ·rw [List.map_append,kZ.out,iA.out,if_neg vQ]; rfl
            ·rw [QR];exact dA.out
            ·rcases nA g hg with h | h
             ·exact jg.out g h
             ·omega
            ·rcases List.mem_append.1 hp with hp | hp
             ·exact (((lg.out p hp).mono (G:=fun b=>(w6.heap.size<=b/\oA≠some b)/\b<wx.heap.size) fun b hb hl=>⟨hb,hl⟩).chg hw3 fun b hb _ e=>hb.1.2 e).mono fun b hb _=>⟨hb.1.1,fun e=>by
               rcases nA b e with h | h
               ·exact hb.1.2 h
               ·have:=hb.2; omega⟩
             ·rw [List.mem_singleton.1 hp];refine ⟨?_,by simp,by simp,by simp⟩;have hr1:Zm (fun b=>wx.heap.size<b/\b<wA.heap.size) wA (.slice RA 2 fJ) ([kk,S].map vlI):=vH.out.mono fun b hb hl=>⟨by have hb:(wx.alloc (.cells #[.int .i64 kk,.int .i64 S] 2)).heap.size<=b:=hb; omega,hl⟩
              exact ((hr1.chg hab fun _ _ _ h=>h).chg ae fun b hb _ e=>by have:=gA b e; omega).mono fun b hb _=>⟨by omega,fun e=>by
               rcases nA b e with h | h
               ·have:=gA b h; omega
               ·omega⟩
            ·have:=jg.out i e; omega
           case measure=>simp [intOf]; omega
          ·have h0':¬ (0:Int)<S:=by omega
           go_wp2_with fail
           go_roundw
           case rel =>
            refine ⟨j+1,kk+1,oA,BA,LA,cA,pA,by omega,by omega,by go_num,rfl,by omega,Hd ?_,bI,jg,lg,eu⟩;rw [kZ.out,iA.out,if_pos (by omega),List.append_nil]
           case measure=>simp [intOf]; omega
       ·have hj:j=40:=by omega
        subst hj;have hk4:kk=41:=by omega
        subst hk4;have aG:=kZ.out;rw [<- HKEY.out] at aG;have lq:pA.length=LA:=by have h1:=bI.out.1; rw [XH] at h1; omega
        have Vo:Zp (fun b=>w6.heap.size<=b) wx (.slice BA LA cA) (Zj (cO Z')):=aG▸(Zp.Pg (F:=fun b=>w6.heap.size<=b) (bI.out.cs.mono fun g hg _=>jg.out g hg) lq.symm bI.out.fits bI.out.Wg fun p hp=>(lg.out p hp).mono fun b hb _=>hb.1);have SA:=Hd Vo;have hAx:=vC.out.low.Zf eu (fun _ _ h=>h) fun _ _ h=>h;have hcx:=hc6.trans eu fun _ _ h=>h;have lu:=mJ.out.chg eu fun h=>h;clear Vo aG
        go_wp2_with fail
        refine (Aa (by omega) hAx).mono ?_;rintro _ w7 ⟨sv,rfl,hset,vR,eB⟩;have dM:Chg (fun _=>False) w w7:=hcx.trans eB fun i hi h=>by have:=aQ.out.2.2 i h.1; omega
        have Vo:=SA.out.chg eB fun b hb _ h=>by have:=h.2; omega
        have lC:=Hd (lu.chg eB fun h=>aQ.out.1 h.1);have lD:=Hd (show ¬ (((H NB/\NB<w0.heap.size\/w2.heap.size<=NB)/\NB<w6.heap.size)\/wx.heap.size<=NB)/\¬ (((T NB/\NB<w0.heap.size\/NB=rb\/w2.heap.size<=NB)/\NB<w6.heap.size)\/wx.heap.size<=NB)/\∀ j,(((H j/\j<w0.heap.size\/w2.heap.size<=j)/\j<w6.heap.size)\/wx.heap.size<=j)->w.heap.size<=j from ⟨fun h=>h.elim (fun h=>aQ.out.1 h.1) fun h=>by have:=lu.lt; omega,fun h=>h.elim (fun h=>aQ.out.2.1 h.1) fun h=>by have:=lu.lt; omega,fun j h=>h.elim (fun h=>aQ.out.2.2 j h.1) fun h=>Nat.le_trans hcx.size h⟩);have bR:=NI hset Vo;clear Vo hset
        go_wp2_with fail
        refine bR.mono ?_;rintro _ v3 ⟨rfl,hc3⟩
        go_wp2_with fail
        go_roundw
        case rel=>exact ⟨k+1,_,_,Z',N',by omega,by go_num,Hd (lC.out.chg hc3 fun h=>h),qY,vR.Zf hc3 (fun _ _ h=>h) fun _ _ h=>h,lD,dM.trans hc3 fun _ _ h=>h⟩
        case measure=>simp [intOf]; omega
    ·unfold qW
     go_wp2_with fail
     go_roundw
     case rel=>exact ⟨k+1,_,_,Z,N,by omega,by go_num,Hd jf,pI,hA,aQ,bU⟩
     case measure=>simp [intOf]; omega
  ·have hgo:(¬ (k:Int)<(n:Int))\/((k:Int)<(n:Int)/\¬ (k:Int)<30):=by omega
   clear hkn;rcases hgo with l0 | ⟨l0,l1⟩
   all_goals
    go_wp2_with fail
    refine (haw _).mono ?_;rintro _ wz ⟨rfl,hz⟩
    go_wp2_with fail
    go_ret
    exact ⟨rfl,hcw.trans hz fun _ _ h=>h⟩
end Ev
namespace Ev
open Go Go.Proofs
noncomputable section
namespace Aw
def x0:Zb:=(vX 53 12721750682382609111719253287628929560559510350085760694781010853206626624441197245399277313392579635576832)
def x1:Zb:=(vX 78 20443065161098384860209130562291368547662840677452291927971911881341687252473881058453237447322172058619565440678469734118862894936915468778086895837454613355801083904)
def x2:Zb:=(vX 61 1960712239413556518749078970664662811092682352153757563955377504634313096499494328172855002827337622488887490782307077532674649873114338426880)
def x3:Zb:=(vX 86 3150743091357885622466308837191770890642928195303893346220514622984810769437259592429553189335241018369345115602363850948685383196873674042536770842112689124553770998090851246663493133522501199785361408)
def x4:Zb:=(vX 5 500069396323)
def x5:Zb:=(vX 30 284089292896909053021699801486181405582082790347143928726239583268923176)
def x6:Zb:=(vX 112 3414023389634485388421421406248234863078144736112157952970156746106243780406004679508634449555833989572822378237849738628550762131475651691433229655865808966863377391555582772383398797192728574948099330039810609426046489297305892983570824167424)
def x7:Zb:=(vX 137 5486124068793688683404637942034987576354199008750477849261336583201597069684712030235997565764154085455389875117527034485612252647688972274911677225265808465854270267900208612332545375615337698721707722472075578782823217924127446800187588313795416721149865711716056513875765037049810985723554680335761408)
def x8:Zb:=(vX 25 6277101735386680764176071790128604879584176795969512275970)
def b0:Zd:=bC [(vI 0),(vX 0 0),.Za,(vI 0),(vX 0 0),.Za,(vI 0),(vX 0 0),.Za,(vI 0),(vX 0 0),.Za,(vI 0),(vX 0 0),.Za,.Za] 0
def b1:Zd:=bC [(vP 2 0),(vP 0 0)] 0
def b2:Zd:=bC [.Za,(vL 14 0 3),(.iface 186 (vP 0 0))] 0
def b3:Zd:=bC [(vL 128 0 50),(vI 50)] 0
def b4:Zd:=bC [(vP 2 0),(vI 0),(vP 3 0),(vI 0),vT,(vI 50),(vI 1),(vP 16 0),(vP 19 0),(vP 18 0),(vI 0),(vM 20),(vI 0),(vI 0),(vI 0),.Zk,(vX 0 0),.Za,
 (vI 0),(vI 0),.Zk,(vI 0),(vI 0),(vI 0),vF] 0
def b5:Zd:=bC [(vL 242 0 50),(vI 50)] 0
def b6:Zd:=bC [(vP 2 0),(vI 1),(vP 7 0),(vI 0),vT,(vI 50),(vI 1),(vP 130 0),(vP 133 0),(vP 132 0),(vI 0),(vM 134),(vI 0),(vI 0),(vI 0),.Zk,(vX 0 0),.Za,
 (vI 0),(vI 0),.Zk,(vI 0),(vI 0),(vI 0),vF] 0
def b7:Zd:=bC [(vL 356 0 50),(vI 50)] 0
def b8:Zd:=bC [(vP 2 0),(vI 2),(vP 11 0),(vI 0),vT,(vI 50),(vI 1),(vP 244 0),(vP 247 0),(vP 246 0),(vI 0),(vM 248),(vI 0),(vI 0),(vI 0),.Zk,(vX 0 0),.Za,
 (vI 0),(vI 0),.Zk,(vI 0),(vI 0),(vI 0),vF] 0
def b9:Zd:=bO [(vP 4 0),(vP 8 0),(vP 12 0)] 1
def b10:Zd:=bC [(vI 0),(vI 0),(vM 15),(vI 0)] 0
def b11:Zd:=bC [(vM 17),(vI 0)] 0
def b12:Zd:=bC [(vI 0),(vI 3),(vI 0),(vI 0),(vI 0),(vI 0),.Zk,.Zk,.Zk] 0
def b13:Zd:=bZ 50 38707680873383516948918279504135709794145275902319762939253008750918183078068237
def b14:Zd:=bC [(vI 0),(vI 0),(vM 129),(vI 0)] 0
def b15:Zd:=bC [(vM 131),(vI 0)] 0
def b16:Zd:=bC [(vI 1),(vI 3),(vI 0),(vI 0),(vI 0),(vI 0),.Zk,.Zk,.Zk] 0
def b17:Zd:=bC [(vI 0),(vI 0),(vM 243),(vI 0)] 0
def b18:Zd:=bC [(vM 245),(vI 0)] 0
def b19:Zd:=bC [(vI 2),(vI 3),(vI 0),(vI 0),(vI 0),(vI 0),.Zk,.Zk,.Zk] 0
def b20:Zd:=bC [.Za,.Za] 0
def b21:Zd:=bC [(vI 0),(vI 0),(vI 0),(vX 0 0),(vI 0),(vI 0),(vI 0),(vX 0 0),(vI 0),(vI 0),(vI 0),(vX 0 0),(vI 0),(vI 0),(vI 0),(vX 0 0),(vI 0),(vI 0),(vI 0),
 (vX 0 0),(vI 0),(vI 0),(vI 0),(vX 0 0),(vI 0),(vI 0),(vI 0),(vX 0 0),(vI 0),(vI 0),(vI 0),(vX 0 0),(vI 0),(vI 0),(vI 0),(vX 0 0),(vI 0),(vI 0),(vI 0),
 (vX 0 0),(vI 0),(vI 0),(vI 0),(vX 0 0),(vI 0),(vI 0),(vI 0),(vX 0 0),(vI 0),(vI 0),(vI 0),(vX 0 0),(vI 0),(vI 0),(vI 0),(vX 0 0),(vI 0),(vI 0),(vI 0),
 (vX 0 0),(vI 0),(vI 0),(vI 0),(vX 0 0)] 0
def b22:Zd:=bC [(vP 359 0),.Za,(vM 360),(vP 361 0)] 0
def b23:Zd:=bC [(vP 362 0),(vI 0)] 0
def b24:Zd:=bC [(vP 366 0),.Za,(vM 367),(vP 368 0)] 0
def b25:Zd:=bC [(vP 369 0),(vI 0)] 0
def b26:Zd:=bC [(vP 373 0),.Za,(vM 374),(vP 375 0)] 0
def b27:Zd:=bC [(vP 376 0),(vI 0)] 0
def b28:Zd:=bC [(vL 701 0 2),(vL 14 0 3),(.iface 186 (vP 0 0))] 0
def b29:Zd:=bC [(vP 2 0),(vI 0),(vP 3 0),(vI 0),vT,(vI 50),(vI 1),(vP 16 0),(vP 19 0),(vP 18 0),(vI 0),(vM 20),(vI 0),(vI 0),(vI 0),.Zk,(vX 0 0),(vL 547 0 1),
 (vI 1),(vI 1),(vM 551),(vI 0),(vI 0),(vI 0),vF] 0
def b30:Zd:=bC [(vI 0),(vI 3),(vI 1),(vI 1),(vI 0),(vI 0),(vM 553),(vM 554),(vM 555)] 0
def b31:Zd:=bO [(vI 0),(vI 1),(vI 1),vF,x0,(vJ 0)] 6
def b32:Zd:=bZ 33 1606938044258990275541962092341162602522202993782792835301633
def b33:Zd:=bO [(vI 0),(vI 1),(vL 627 0 33),(vI 0),(vI 2),(vL 699 0 33)] 3
def b34:Zd:=bC [(vI 0),(vX 0 0),(vL 1964 0 1),(vI 0),(vX 0 0),(vL 2180 0 1),(vI 0),(vX 0 0),(vL 2260 0 1),(vI 0),(vX 0 0),.Za,(vI 0),(vX 0 0),.Za,
 .Za] 0
def b35:Zd:=bC [(vL 1500 0 0),(vL 14 0 3),(.iface 186 (vP 0 0))] 0
def b36:Zd:=bC [(vL 1943 0 225),(vI 204)] 0
def b37:Zd:=bC [(vP 2 0),(vI 0),(vP 3 0),(vI 0),vT,(vI 225),(vI 1),(vP 16 0),(vP 19 0),(vP 18 0),(vI 1),(vM 20),(vI 1),(vI 0),(vI 0),.Zk,(vX 0 0),(vL 1961 0 0),
 (vI 1),(vI 2),(vM 551),(vI 1),(vI 0),(vI 0),vF] 0
def b38:Zd:=bC [(vL 2163 0 225),(vI 204)] 0
def b39:Zd:=bC [(vP 2 0),(vI 1),(vP 7 0),(vI 0),vT,(vI 225),(vI 1),(vP 130 0),(vP 133 0),(vP 132 0),(vI 1),(vM 134),(vI 1),(vI 0),(vI 0),.Zk,(vX 0 0),.Za,
 (vI 0),(vI 0),.Zk,(vI 0),(vI 0),(vI 0),vF] 0
def b40:Zd:=bC [(vL 2243 0 225),(vI 204)] 0
def b41:Zd:=bC [(vP 2 0),(vI 2),(vP 11 0),(vI 0),vT,(vI 225),(vI 1),(vP 244 0),(vP 247 0),(vP 246 0),(vI 1),(vM 248),(vI 1),(vI 0),(vI 0),.Zk,(vX 0 0),
 .Za,(vI 0),(vI 0),.Zk,(vI 0),(vI 0),(vI 0),vF] 0
def b42:Zd:=bM [((vI 0),(.agg [(vI 0),(vI 1),(vI 0),x1]),0)] 1
def b43:Zd:=bC [(vI 1),(vI 0),(vM 15),(vI 1)] 0
def b44:Zd:=bM [((vI 0),x1,0)] 1
def b45:Zd:=bC [(vM 17),(vI 1)] 0
def b46:Zd:=bM [((.agg [(vI 0),(vI 1),(vI 1)]),(.agg [(vI 0),(vI 0)]),0)] 1
def b47:Zd:=bC [(vI 1),(vI 0),(vM 129),(vI 1)] 0
def b48:Zd:=bC [(vM 131),(vI 1)] 0
def b49:Zd:=bC [(vI 1),(vI 3),(vI 1),(vI 0),(vI 0),(vI 0),.Zk,.Zk,.Zk] 0
def b50:Zd:=bC [(vI 1),(vI 0),(vM 243),(vI 1)] 0
def b51:Zd:=bC [(vM 245),(vI 1)] 0
def b52:Zd:=bC [(vI 2),(vI 3),(vI 1),(vI 0),(vI 0),(vI 0),.Zk,.Zk,.Zk] 0
def b53:Zd:=bM [((vI 1),(vI 1),0)] 1
def b54:Zd:=bM [((vI 1),(vI 1),0),((vI 0),(vI 1),1)] 2
def b55:Zd:=bM [((vI 0),(vP 1226 0),0)] 1
def b56:Zd:=bM [((vI 0),(vI 1),0),((vI 1),(vI 1),1),((vI 2),(vI 1),2)] 3
def b57:Zd:=bC [x1,(vM 1225)] 0
def b58:Zd:=bO [(vI 0),(vI 0),.Za,(vI 0),(vI 0),.Za,(vI 0),(vI 0),.Za] 3
def b59:Zd :=
 bZ 225 85850750097941099802753601835055848230950356798910796247073372084067163611578717184851822150403251378629912955931388727444697425495194092801900239563991797499227440499392521580001254097747579384555002881536567308572010890673184087853524866948991305515311577138760325586255272766343110778984800209021532639636200825128390469751361375413332338594392793233125014155170645400244763536718931850788160853867998931012747582559818970521580298687029790248239996036478076367115799862312612112800746016600217115464931227560822439949
def b60:Zd:=bO [(vI 0),(vI 0),(vI 0),vF,(vX 0 0),(vI 0)] 6
def b61:Zd:=bC [(vL 2421 0 1),.Za] 0
def b62:Zd:=bC [(vI 1),(vI 0),(vI 0),(vX 0 0),(vI 0),(vI 0),(vI 0),(vX 0 0),(vI 0),(vI 0),(vI 0),(vX 0 0),(vI 0),(vI 0),(vI 0),(vX 0 0),(vI 0),(vI 0),(vI 0),
 (vX 0 0),(vI 0),(vI 0),(vI 0),(vX 0 0),(vI 0),(vI 0),(vI 0),(vX 0 0),(vI 0),(vI 0),(vI 0),(vX 0 0),(vI 0),(vI 0),(vI 0),(vX 0 0),(vI 0),(vI 0),(vI 0),
 (vX 0 0),(vI 0),(vI 0),(vI 0),(vX 0 0),(vI 0),(vI 0),(vI 0),(vX 0 0),(vI 0),(vI 0),(vI 0),(vX 0 0),(vI 0),(vI 0),(vI 0),(vX 0 0),(vI 0),(vI 0),(vI 0),
 (vX 0 0),(vI 0),(vI 0),(vI 0),(vX 0 0)] 0
def b63:Zd:=bC [(vP 359 0),(vL 2426 0 1),(vM 360),(vP 361 0)] 0
def b64:Zd:=bC [(vP 362 0),(vI 1)] 0
def b65:Zd:=bO [(vX 1 97),(vI 1),(vX 1 99),(vI 1)] 2
def b66:Zd:=bO [(vX 1 117),(vL 2419 0 2)] 2
def b67:Zd:=bO [(vX 1 117),(vL 2424 0 2),.Za] 3
def b68:Zd:=bC [(vL 2603 0 1),.Za] 0
def b69:Zd:=bC [(vP 366 0),(vL 2608 0 1),(vM 367),(vP 368 0)] 0
def b70:Zd:=bC [(vP 369 0),(vI 1)] 0
def b71:Zd:=bO [(vX 1 117),(vL 2601 0 2)] 2
def b72:Zd:=bO [(vX 1 117),(vL 2606 0 2),.Za] 3
def b73:Zd:=bC [(vL 2772 0 1),.Za] 0
def b74:Zd:=bC [(vP 373 0),(vL 2777 0 1),(vM 374),(vP 375 0)] 0
def b75:Zd:=bC [(vP 376 0),(vI 1)] 0
def b76:Zd:=bO [(vX 1 117),(vL 2770 0 2)] 2
def b77:Zd:=bO [(vX 1 117),(vL 2775 0 2),.Za] 3
def b78:Zd:=bC [(vL 1500 0 2),(vL 14 0 3),(.iface 186 (vP 0 0))] 0
def b79:Zd:=bC [(vL 3064 0 358),(vI 358)] 0
def b80:Zd:=bC [(vP 2 0),(vI 0),(vP 3 0),(vI 0),vT,(vI 358),(vI 1),(vP 16 0),(vP 19 0),(vP 18 0),(vI 1),(vM 20),(vI 1),(vI 0),(vI 0),.Zk,(vX 0 0),(vL 1961 0 1),
 (vI 2),(vI 2),(vM 551),(vI 2),(vI 0),(vI 0),vF] 0
def b81:Zd:=bM [((vI 0),(.agg [(vI 0),(vI 1),(vI 0),x1]),0),((vI 1),(.agg [(vI 1),(vI 1),(vI 0),x3]),1)] 2
def b82:Zd:=bC [(vI 1),(vI 0),(vM 15),(vI 2)] 0
def b83:Zd:=bM [((vI 0),(vP 1226 0),0),((vI 1),(vP 2953 0),1)] 2
def b84:Zd:=bO [(vI 0),(vI 1),(vL 3149 0 121),(vI 0),(vI 2),(vL 3225 0 121),(vI 0),(vI 0),.Za] 3
def b85:Zd:=bO [(vI 0),(vI 1),(vI 2),vF,x2,(vI 1)] 6
def b86:Zd:=bM [((vI 0),(vI 1),0)] 1
def b87:Zd:=bC [x3,(vM 2952)] 0
def b88:Zd :=
 bZ 358 34648429757685036596854752068673216952105314234067702452599465309208107977849184228308579732582637768983170523073072438154054723812610502627450776589551061383778005431583037630256077816221036453111748091390940811598653851438616685019349045322266906250583747209469630351234775037559334210277876893179887216560520214140679340615962884867106806699856335550026194244179818195545548137573752310183406026676386006412118749355042303243280904645788797745804571701378479508002454866717136091818799722872129636490576752487819919122328808608520417740768089933228535833350876368473619616552564318994797977135738250508337818058629736860826277987689209241462091839597511775185185843492874854742309777883467489941777269814021073816636508791153599304072186994975101439884756632048914430280858012125808726786235425904683352808772857500068183736925923996765699094347390124045
def b89:Zd :=
 bZ 121 6120850590976092748377483305493787096064262016104632756702253792994757928034096634179701860805749230946871538231575485188101985603840080257584047696951822041535723748322680415449016218347210947728453117930591782032165495811601263188502726447752506244059758701353462806828466263719674115
def b90:Zd:=bC [(vI 0),(vX 0 0),(vL 3700 0 2),(vI 0),(vX 0 0),(vL 3916 0 2),(vI 0),(vX 0 0),(vL 3996 0 2),(vI 0),(vX 0 0),.Za,(vI 0),(vX 0 0),.Za,
 .Za] 0
def b91:Zd:=bC [(vL 3679 0 379),(vI 358)] 0
def b92:Zd:=bC [(vP 2 0),(vI 0),(vP 3 0),(vI 0),vT,(vI 379),(vI 1),(vP 16 0),(vP 19 0),(vP 18 0),(vI 2),(vM 20),(vI 2),(vI 0),(vI 0),.Zk,(vX 0 0),(vL 3697 0 0),
 (vI 2),(vI 2),(vM 551),(vI 2),(vI 0),(vI 0),vF] 0
def b93:Zd:=bC [(vL 3899 0 379),(vI 358)] 0
def b94:Zd:=bC [(vP 2 0),(vI 1),(vP 7 0),(vI 0),vT,(vI 379),(vI 1),(vP 130 0),(vP 133 0),(vP 132 0),(vI 2),(vM 134),(vI 2),(vI 0),(vI 0),.Zk,(vX 0 0),.Za,
 (vI 0),(vI 0),.Zk,(vI 0),(vI 0),(vI 0),vF] 0
def b95:Zd:=bC [(vL 3979 0 379),(vI 358)] 0
def b96:Zd:=bC [(vP 2 0),(vI 2),(vP 11 0),(vI 0),vT,(vI 379),(vI 1),(vP 244 0),(vP 247 0),(vP 246 0),(vI 2),(vM 248),(vI 2),(vI 0),(vI 0),.Zk,(vX 0 0),
 .Za,(vI 0),(vI 0),.Zk,(vI 0),(vI 0),(vI 0),vF] 0
def b97:Zd:=bM [((vI 0),x1,0),((vI 1),x3,1)] 2
def b98:Zd:=bC [(vM 17),(vI 2)] 0
def b99:Zd:=bM [((.agg [(vI 0),(vI 1),(vI 1)]),(.agg [(vI 0),(vI 0)]),0),((.agg [(vI 0),(vI 1),(vI 2)]),(.agg [(vI 1),(vI 1)]),1)] 2
def qZ:Zd:=bC [(vI 1),(vI 0),(vM 129),(vI 2)] 0
def q8:Zd:=bC [(vM 131),(vI 2)] 0
def q9:Zd:=bC [(vI 1),(vI 0),(vM 243),(vI 2)] 0
def rC:Zd:=bC [(vM 245),(vI 2)] 0
def LX:Zd :=
 bZ 379 292450614112511644070506266937545488954584756431927392965785116160362858076610849554494507876523333260148161310572875008059293021866254541704449083205130431232193537937502261406665412012248807348359347332387354543902897742247467679007595760202475163940072428574974564692826269638608448482831641008510063785222101663598109497169182402754193368822599588710430803687753442932999794728444378699380368408255044847228933277242877102383763998035072874230633351368827005737768342002537249510720831474202851938705790294659563059736302907058535089266233094542105063629628801842698001470341333156097799164702772216565689885069075643016550249546799304793151151757819302284065730259220171953352504086224277487221730401636176112899411606559787389124827447831584910625319963054545535327857276610893158776333728794990226926373924512444841199985057716644011673704249866956785348914640587301468203315945959063565
def PX:Zd:=bO [x0,x2] 1
def Ag:Zd:=bM [((vX 1 118),(vP 5256 0),0)] 1
def mK:Zd:=bC [(vI 2),(vI 0),(vI 0),(vX 0 0),(vI 0),(vI 0),(vI 0),(vX 0 0),(vI 0),(vI 0),(vI 0),(vX 0 0),(vI 0),(vI 0),(vI 0),(vX 0 0),(vI 0),(vI 0),(vI 0),
 (vX 0 0),(vI 0),(vI 0),(vI 0),(vX 0 0),(vI 0),(vI 0),(vI 0),(vX 0 0),(vI 0),(vI 0),(vI 0),(vX 0 0),(vI 0),(vI 0),(vI 0),(vX 0 0),(vI 0),(vI 0),(vI 0),
 (vX 0 0),(vI 0),(vI 0),(vI 0),(vX 0 0),(vI 0),(vI 0),(vI 0),(vX 0 0),(vI 0),(vI 0),(vI 0),(vX 0 0),(vI 0),(vI 0),(vI 0),(vX 0 0),(vI 0),(vI 0),(vI 0),
 (vX 0 0),(vI 0),(vI 0),(vI 0),(vX 0 0)] 0
def Ah:Zd:=bC [(vP 4089 0),(vL 2426 0 1),(vM 360),(vP 361 0)] 0
def Ai:Zd:=bC [(vP 362 0),(vI 2)] 0
def vS:Zd:=bC [(vL 4088 0 1),(vL 4777 0 1)] 0
def Vp:Zd:=bO [(vX 1 110),x4,(vX 0 0)] 3
def Vq:Zd:=bO [(vI 1),(vX 1 117),.Za,.Za,.Za,.Za,.Za,.Za] 8
def Vr:Zd:=bO [(vX 1 110),(vI 1)] 2
def vV:Zd:=bO [(vX 1 118),x5,(vI 7),(vX 0 0),.Za,.Za,.Za,.Za,(vL 4176 0 1),(vL 4185 0 1),(vL 4529 0 1)] 11
def vY:Zd:=bO [(vL 5230 0 2)] 1
def FK:Zd:=bO [x4,(vI 0)] 2
def vZ:Zd:=bC [(vP 5281 0),(vL 5267 0 1),(vM 5272)] 0
def wh:Zd:=bO [(vX 1 117),(vL 5265 0 2)] 2
def FL:Zd:=bM [((vX 1 117),.Za,0)] 1
def wm:Zd:=bC [(vI 7),(vX 0 0),.Za,.Za,.Za,.Za,(vL 4861 0 1),(vL 4870 0 1),(vL 5254 0 1),(vL 5284 0 1),(vL 5234 0 1),.Za,(vP 5286 0),
 .Zo,.Zo] 0
def wo:Zd:=bC [(vI 1),(vX 1 117),.Za,.Za,.Za,.Za,.Za,.Za,(vL 5230 0 2),.Za,.Za,.Za,.Zo,.Zo,.Zo] 0
def wu:Zd:=bO [(vP 5282 0)] 1
def wE:Zd:=bC [.Za,(vL 5250 0 1),(vM 5285)] 0
def Aj:Zd:=bM [((vX 1 118),(vP 6564 0),0)] 1
def Ak:Zd:=bC [(vP 5397 0),(vL 2608 0 1),(vM 367),(vP 368 0)] 0
def Am:Zd:=bC [(vP 369 0),(vI 2)] 0
def wF:Zd:=bC [(vL 5396 0 1),(vL 6085 0 1)] 0
def wG:Zd:=bO [(vX 1 118),x5,(vI 7),(vX 0 0),.Za,.Za,.Za,.Za,(vL 5484 0 1),(vL 5493 0 1),(vL 5837 0 1)] 11
def wH:Zd:=bO [(vL 6538 0 2)] 1
def wI:Zd:=bC [(vP 6589 0),(vL 6575 0 1),(vM 6580)] 0
def wJ:Zd:=bO [(vX 1 117),(vL 6573 0 2)] 2
def wK:Zd:=bC [(vI 7),(vX 0 0),.Za,.Za,.Za,.Za,(vL 6169 0 1),(vL 6178 0 1),(vL 6562 0 1),(vL 6592 0 1),(vL 6542 0 1),.Za,(vP 6594 0),
 .Zo,.Zo] 0
def wL:Zd:=bC [(vI 1),(vX 1 117),.Za,.Za,.Za,.Za,.Za,.Za,(vL 6538 0 2),.Za,.Za,.Za,.Zo,.Zo,.Zo] 0
def wM:Zd:=bO [(vP 6590 0)] 1
def wN:Zd:=bC [.Za,(vL 6558 0 1),(vM 6593)] 0
def Ao:Zd:=bM [((vX 1 118),(vP 7861 0),0)] 1
def Ap:Zd:=bC [(vP 6694 0),(vL 2777 0 1),(vM 374),(vP 375 0)] 0
def Aq:Zd:=bC [(vP 376 0),(vI 2)] 0
def wO:Zd:=bC [(vL 6693 0 1),(vL 7382 0 1)] 0
def wP:Zd:=bO [(vX 1 118),x5,(vI 7),(vX 0 0),.Za,.Za,.Za,.Za,(vL 6781 0 1),(vL 6790 0 1),(vL 7134 0 1)] 11
def wQ:Zd:=bO [(vL 7835 0 2)] 1
def wR:Zd:=bC [(vP 7886 0),(vL 7872 0 1),(vM 7877)] 0
def wS:Zd:=bO [(vX 1 117),(vL 7870 0 2)] 2
def wT:Zd:=bC [(vI 7),(vX 0 0),.Za,.Za,.Za,.Za,(vL 7466 0 1),(vL 7475 0 1),(vL 7859 0 1),(vL 7889 0 1),(vL 7839 0 1),.Za,(vP 7891 0),
 .Zo,.Zo] 0
def wU:Zd:=bC [(vI 1),(vX 1 117),.Za,.Za,.Za,.Za,.Za,.Za,(vL 7835 0 2),.Za,.Za,.Za,.Zo,.Zo,.Zo] 0
def wV:Zd:=bO [(vP 7887 0)] 1
def wW:Zd:=bC [.Za,(vL 7855 0 1),(vM 7890)] 0
def Ar:Zd:=bC [(vL 8376 0 563),(vI 563)] 0
def Au:Zd:=bC [(vP 2 0),(vI 0),(vP 3 0),(vI 0),vT,(vI 563),(vI 1),(vP 16 0),(vP 19 0),(vP 18 0),(vI 2),(vM 20),(vI 2),(vI 0),(vI 0),.Zk,(vX 0 0),(vL 3697 0 1),
 (vI 3),(vI 2),(vM 551),(vI 3),(vI 0),(vI 0),vF] 0
def Rs:Zd:=bM [((vI 0),(.agg [(vI 0),(vI 1),(vI 0),x1]),0),((vI 1),(.agg [(vI 1),(vI 1),(vI 0),x3]),1),((vI 2),(.agg [(vI 2),(vI 1),(vI 0),x7]),2)] 3
def mM:Zd:=bC [(vI 1),(vI 0),(vM 15),(vI 3)] 0
def UP:Zd:=bM [((vI 0),(vP 1226 0),0),((vI 1),(vP 2953 0),1),((vI 2),(vP 8265 0),2)] 3
def Av:Zd:=bO [(vI 0),(vI 1),(vL 8461 0 172),(vI 0),(vI 2),(vL 8537 0 172),(vI 0),(vI 0),.Za] 3
def xe:Zd:=bO [(vI 0),(vI 1),(vI 3),vF,x6,(vI 2)] 6
def UQ:Zd:=bC [x7,(vM 8264)] 0
def Ay:Zd :=
 bZ 563 4461602222316868967332862690901365226801389257376444293766170904353918628820283045476791995958210303123655466536408791804266693221772897635995216234641396140368462160384550575211855617218607446215010333530659053193538050059463952349949937728804555488531784215731908103312027864588837795918510108455828560462802979540794729319704055357013392973313384216615433807131785089458039490060088247632407879965965238215562926974393709679153532081331118165999303796670447738131621093485476744842839465567071928809967933069684824827458674748896337620552086907003656930684504976913099158324437427658937751104843724158664202891614465382679977071609842633519860609438312513916901342551610628469128789348716615205439155930281517893295880829175385028712863119499766279669580042519659158667029810629806031169154635218828616802544921021118036084066259638776918581395385849671852631626981273030502934363312961201268831225906970548512309482057375600121131929891998156681686673204150103189785175722416959333409741947148757892143284471656430654923206198612495153817155598913796929925586558641274261676824981406023640164395499036690256930305561441587449331374570607281870785974582248302545468536452484975161817377289871074304006782807804427839903001661335575679825136069535963810633042047092217564881807116767031302330701752989053901547258095082508648461
def mO:Zd :=
 bZ 172 10657722567336344660180324244252169908983478678315767402457921035736041686532360589576361952810234459470555813641293817756430887207849714397794099388363976681745778542057746915237163032206932420886381864266133558560829844684142775606877300185421032213324993067349101663227710622495574776146416382200691744369855739731675494134801816093564981990053195102643614473638739213023414927631581443
def pQ:Zd:=bC [(vI 0),(vX 0 0),(vL 9012 0 3),(vI 0),(vX 0 0),(vL 9228 0 3),(vI 0),(vX 0 0),(vL 9308 0 3),(vI 0),(vX 0 0),.Za,(vI 0),(vX 0 0),.Za,
 .Za] 0
def rD:Zd:=bC [(vL 8991 0 584),(vI 563)] 0
def rE:Zd:=bC [(vP 2 0),(vI 0),(vP 3 0),(vI 0),vT,(vI 584),(vI 1),(vP 16 0),(vP 19 0),(vP 18 0),(vI 3),(vM 20),(vI 3),(vI 0),(vI 0),.Zk,(vX 0 0),(vL 9009 0 0),
 (vI 3),(vI 2),(vM 551),(vI 3),(vI 0),(vI 0),vF] 0
def rF:Zd:=bC [(vL 9211 0 584),(vI 563)] 0
def rG:Zd:=bC [(vP 2 0),(vI 1),(vP 7 0),(vI 0),vT,(vI 584),(vI 1),(vP 130 0),(vP 133 0),(vP 132 0),(vI 3),(vM 134),(vI 3),(vI 0),(vI 0),.Zk,(vX 0 0),.Za,
 (vI 0),(vI 0),.Zk,(vI 0),(vI 0),(vI 0),vF] 0
def rH:Zd:=bC [(vL 9291 0 584),(vI 563)] 0
def Az:Zd:=bC [(vP 2 0),(vI 2),(vP 11 0),(vI 0),vT,(vI 584),(vI 1),(vP 244 0),(vP 247 0),(vP 246 0),(vI 3),(vM 248),(vI 3),(vI 0),(vI 0),.Zk,(vX 0 0),
 .Za,(vI 0),(vI 0),.Zk,(vI 0),(vI 0),(vI 0),vF] 0
def PY:Zd:=bM [((vI 0),x1,0),((vI 1),x3,1),((vI 2),x7,2)] 3
def rJ:Zd:=bC [(vM 17),(vI 3)] 0
def PZ:Zd:=bM [((.agg [(vI 0),(vI 1),(vI 1)]),(.agg [(vI 0),(vI 0)]),0),((.agg [(vI 0),(vI 1),(vI 2)]),(.agg [(vI 1),(vI 1)]),1),((.agg [(vI 0),(vI 1),(vI 3)]),
 (.agg [(vI 2),(vI 2)]),2)] 3
def rM:Zd:=bC [(vI 1),(vI 0),(vM 129),(vI 3)] 0
def rO:Zd:=bC [(vM 131),(vI 3)] 0
def rP:Zd:=bC [(vI 1),(vI 0),(vM 243),(vI 3)] 0
def rQ:Zd:=bC [(vM 245),(vI 3)] 0
def P0:Zd :=
 bZ 584 28330435887867927798340893461431596905552639326055521857053604898129722651023065958346484459525520777628896749550169261497326987712314968774583153917459365003643968572798722072610955225695237698448723766348264908904333343987512612312427032990090344830767314381850486365873167831092867718821970754340078934538624836600213063635420971867190794953900055316166400075550744565122453611034233593810244709100334098708126336089912131243878058935460495880840929569006844971978454196404426502248915505373403465643094854876025398147246786237701180994634717402483052263660246480207033133653680444421797910401471199581686413795989667960583668817560144145579655345955686688588165263566144681341421517389794941509125307170558206711205138966345950038781680337636270082157597379617785177176159792612588215187065444996116913113496889056848983562787224081748174483793698820738894295280249416407716335544506390527236393367557708712923798723208149658842668870139119130314413006815433429288688991945959179965029592901105239604094047311769466130315939067871998136887653135143985886632779840686327350989088549234083457292078980364491609701765427261382635924859262510131639301305280358521048209766197440161324917239659443045658315690446331981873354091545575766687176523030279525407637273789242355624611868843257158395787018005278892802933564421734645131433784455908513469819326174201331604236059691328033909637133
def TC:Zd:=bO [x0,x2,x6] 1
def xg:Zd:=bC [(vI 3),(vI 0),(vI 0),(vX 0 0),(vI 0),(vI 0),(vI 0),(vX 0 0),(vI 0),(vI 0),(vI 0),(vX 0 0),(vI 0),(vI 0),(vI 0),(vX 0 0),(vI 0),(vI 0),(vI 0),
 (vX 0 0),(vI 0),(vI 0),(vI 0),(vX 0 0),(vI 0),(vI 0),(vI 0),(vX 0 0),(vI 0),(vI 0),(vI 0),(vX 0 0),(vI 0),(vI 0),(vI 0),(vX 0 0),(vI 0),(vI 0),(vI 0),
 (vX 0 0),(vI 0),(vI 0),(vI 0),(vX 0 0),(vI 0),(vI 0),(vI 0),(vX 0 0),(vI 0),(vI 0),(vI 0),(vX 0 0),(vI 0),(vI 0),(vI 0),(vX 0 0),(vI 0),(vI 0),(vI 0),
 (vX 0 0),(vI 0),(vI 0),(vI 0),(vX 0 0)] 0
def P3:Zd:=bO [(vI 1),(vI 1),(vX 0 0),(vI 1),(vI 1),(vX 0 0)] 3
def P4:Zd:=bO [(vI 1),(vI 1),(vX 0 0),(vI 1),(vI 2),(vX 0 0)] 3
def mP:Zd:=bO [(vI 1),(vI 2),(vX 0 0)] 3
def AA:Zd:=bC [(vP 2 0),(vI 2),(vP 11 0),(vI 0),vT,(vI 584),(vI 1),(vP 244 0),(vP 247 0),(vP 246 0),(vI 3),(vM 248),(vI 3),(vI 0),(vI 0),.Zk,(vX 0 0),
 (vL 10370 0 1),(vI 1),(vI 1),(vM 10374),(vI 0),(vI 0),(vI 0),vF] 0
def xh:Zd:=bC [(vI 2),(vI 3),(vI 2),(vI 2),(vI 2),(vI 3),(vM 10376),(vM 10377),(vM 10378)] 0
def AB:Zd:=bO [(vI 2),(vI 0),(vL 10450 0 33),(vI 2),(vI 1),(vL 10521 0 33),(vI 0),(vI 0),.Za] 3
def AJ:Zd:=bO [(vI 2),(vI 1),(vI 1),vT,(vX 1 49),(vJ 0)] 6
def mQ:Zd:=bZ 33 1606938044258990275803298950136443342471519425256130112127489
def xk:Zd:=bM [((vI 0),(.agg [(vI 0),(vI 1),(vI 0),x1]),0),((vI 1),(.agg [(vI 1),(vI 1),(vI 0),x3]),1),((vI 2),(.agg [(vI 2),(vI 1),(vI 0),x7]),2),((vI 3),
 (.agg [(vI 3),(vI 2),(vI 2),x8]),3)] 4
def xm:Zd:=bM [((vI 0),x1,0),((vI 1),x3,1),((vI 2),x7,2),((vI 3),x8,3)] 4
def xn:Zd:=bM [((.agg [(vI 0),(vI 1),(vI 1)]),(.agg [(vI 0),(vI 0)]),0),((.agg [(vI 0),(vI 1),(vI 2)]),(.agg [(vI 1),(vI 1)]),1),((.agg [(vI 0),(vI 1),(vI 3)]),
 (.agg [(vI 2),(vI 2)]),2),((.agg [(vI 2),(vI 1),(vI 1)]),(.agg [(vI 3),(vJ 0)]),3)] 4
def xq:Zd :=
 bZ 706 27009097740359415128432377222136051684277189733185318236012612022053096602987091206349426902458125967557986061886852421139118011672587690777186127181354206251588593608366907538021048143622320298477653547342176327944784795066121804344660016436679029238538807577302262449652219335483090183489410925624482028807043344773418780722031440872120699880423236292410361192756307816476656802211731394200261238678728187935497567679623004404132113665090286097809336687857322485889492223525744092610715360619802567863768865447705754399005420108901466834731417802979286409854887711791905525230611113571752249451188964067314721767475843825553621218209042641586191074980525312613734825795129995463703164113731071259845546212854301510218143130324839106404236049794549188560902341163378292509864598676013142307130946343237742684123487534536579317970497205158426308012774800941362380779745122383877048218732214780549997183669168942196273090190039405923504981952988132312521447569769137362191990075350097208089637953345028996788759738667177902665637043369807713331657299715916933722096866095554444751635784782948122090574816759656113579738880952680622673140201229770493673545762814517591856598930667796256560877111782655868390164135058518365595081873459951942882721176421711688994162313566426227124861959543714082527645037884829561104793840848814422412605244744131009712612742615206438878131985704455018210336298808463312319299026892158031163952167933279394458082738477120592415866959339230109232416084033583227957484242548537340901357872629163585045796859059029270936643551419288422923329066239596783721375167356249937712485988324153323400585881416914232523613592112453192888776232991955682598252969997
def p0:Ent:=⟨97,[(vX 30 284089292896909053021699801486181405582082790347143928726239583268923176)],
 [],
 0,(.tuple [(.agg [(vI 7),(vX 0 0),.Za,.Za,.Za,.Za,(vL 83 0 1),(vL 92 0 1)]),(vI 0),(vI 0)]),
 [(83,bO [(vX 1 110),(vX 5 500069396323),(vX 0 0)] 3),(92,bO [(vI 1),(vX 1 117),.Za,.Za,.Za,.Za,.Za,.Za] 8)],165⟩
def PL:List (Nat×Orc):=[(97,upO [p0])]
def BP:YT:={ fn:=fun f=>fnT.get f,Zf:=VF,reg:=fun _ _=>none,orc:=fun f=>(Qc (OL++PL) .lf).get f }
end Aw
end
end Ev
end Go.Proofs.YtheflbaejhlboaaGreatDoor
