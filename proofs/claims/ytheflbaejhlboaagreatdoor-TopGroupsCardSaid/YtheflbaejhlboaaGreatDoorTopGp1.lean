/- Lemmas for a law of confluencetop. -/
import Derived.Test.YtheflbaejhlboaaGreatDoorTopGp0
import Derived.WalkSpells
import Derived.WalkLawsBesides
import Derived.LoopTactic
import Derived.Deep.LoopGhost
import Derived.Deep.RegionLaw
import Derived.Deep.QuietTactic
import Derived.BigQuiet
import Derived.Outline
import Derived.ScopeJumps
import Derived.IntWalk
import Derived.Maps.RangeWalk
import Derived.OpenShut
import Derived.Shelf.Abstract
set_option linter.all false
set_option maxHeartbeats 4000000
set_option maxRecDepth 100000
namespace Go.Proofs.YtheflbaejhlboaaGreatDoor
open Tryz
section
open Go.RowKit
theorem DA:Zfo prog 326 326 5 1:=by
 obtain ⟨i,hi,hz,hs,hb⟩:=info_parts (P:=prog) (e:=5) (z := .int .u8 0) (size:=1) (bytes:=1) (by kernel_rfl);exact ⟨underlying326,.inl ⟨_,underlying326⟩,i,_,hi,hz,hs,hb,rfl⟩
def Zcr (w:World) (n:Nat) (l:List UInt8) (e:Ending) (w':World):Prop :=
 ∃ own A cap,e = .returned (.slice A n cap)/\Own w' 5 own A n cap (bv l)/\(∀ g,own=some g->w.heap.size<=g)/\Chg (fun _=>False) w w'
theorem DB {w:World} {S:Nat->Prop} {A:Option Addr} {n c:Nat} {l:List UInt8} (h:Cs w S A n (bv l)) (hn:n<=140737488355328) :
  Calls prog 304 #[.slice A n c] w (Zcr w n l):=by
 cases A with
 | none =>
  have hn0:n=0:=by
   rcases Nat.eq_zero_or_pos n with h0 | h0
   ·exact h0
   ·obtain ⟨_,_,e,_⟩:=h.2 h0; cases e
  subst hn0;have hl:bv l=[]:=List.eq_nil_of_length_eq_zero h.1;have H:=Hd hl;clear hl h;have hz:=@Lib.run_eql_slice_nil prog
  go_enter func304,ntmps304
  go_wp2_with fail
  go_ret
  exact ⟨none,none,0,rfl,(by rw [H.out]; exact Own.Xt _ _ _),(fun g hg=>by simp at hg),Chg.refl _ _⟩
 | some a =>
  have hz:=@Lib.run_eql_slice_nil prog;have hl:l.length=n:=by rw [<- Yc]; exact h.1
  have h1:Cs (w.alloc (.cells #[] 5)) S (some a) n (bv l):=h.chg ((Chg.refl (fun _=>False) w).alloc _) (fun _ _ _ hf=>hf)
  go_enter func304,ntmps304
  go_wp2_with (at_builtin; refine KW rfl _ _ 326 326 rfl 5 1 DA none _ 0 0 [] (bv l) _ rfl rfl (Own.Xt _ _ _) (Src.slice h1) (Zcl l) n ?_ (by omega) (by omega) ?_)
  ·simpa [Yc] using hl
  ·intro own' A' cap' w' hown hor ae
   go_wp2_with fail
   go_ret
   refine ⟨own',A',cap',rfl,hown,fun g hg => ?_,(((Chg.refl (fun _=>False) w).alloc _).trans ae (fun _ _ hf=>hf))⟩;rcases hor with h0 | h0
   ·rw [h0] at hg; simp at hg
   ·rw [h0] at hg; simp at hg; omega
def XT (V:Nat->Prop) (w:World) (D:Nat) (bs:List UInt8):Prop :=
 V D/\∃ own A cap,w.heap[D]? = some (.cells #[.slice A bs.length cap] 506 (0,0))/\Own w 5 own A bs.length cap (bv bs)/\∀ g,own=some g->V g
theorem one_cell {w:World} {D:Nat} {x:Value} {t:TypeId} (h:w.heap[D]? = some (.cells #[x] t (0,0))):w.cell? ⟨D,0,none⟩=some x/\w.frozen? ⟨D,0,none⟩=false:=by
 simp [World.cell?,World.frozen?,h]
theorem Mz {w:World} {D:Nat} {x:Value} {t:TypeId} (h:w.heap[D]? = some (.cells #[x] t (0,0))) (u:Value):(w.setCell ⟨D,0,none⟩ u).heap[D]? = some (.cells #[u] t (0,0)):=by
 rw [heap_setCell_same w D 0 _ t u h]; rfl
theorem Own.LZ {w:World} {e:TypeId} {own:Option Nat} {A:Option Addr} {n cap:Nat} {xs:List Value} (h:Own w e own A n cap xs) {p:Addr} (hp:own≠some p.block) (u:Value) :
  Own (w.setCell p u) e own A n cap xs :=
 h.chg (T:=fun k=>k=p.block) (Chg.one w p u) fun k hk e=>hp (by rw [hk,e])
theorem Own.fresh (w:World) (l:List Value) (e:TypeId) (hl:l.length<=9223372036854775807):Own (w.alloc (.cells l.toArray e)) e (some w.heap.size) (some ⟨w.heap.size,0,none⟩) l.length l.length l :=
 ⟨rfl,Nat.le_refl _,.inr ⟨w.heap.size,l.toArray,rfl,rfl,heap_alloc_new w _,by simp,by simpa [maxLen] using hl,by simp⟩⟩
theorem Zcs (m:Nat):Value.int .u8 ((m:Int)%256) = .int .u8 ((UInt8.ofNat (m%256)).toNat:Int):=by
 rw [Dz]; congr 1
theorem ZaS:Zfo prog 326 9 5 1:=by
 obtain ⟨i,hi,hz,hs,hb⟩:=info_parts (P:=prog) (e:=5) (z := .int .u8 0) (size:=1) (bytes:=1) (by kernel_rfl);exact ⟨underlying326,.inr underlying9,i,_,hi,hz,hs,hb,rfl⟩
namespace XT
variable {V V' T:Nat->Prop} {w w':World} {D:Nat} {bs:List UInt8}
theorem chg (h:XT V w D bs) (hc:Chg T w w') (hd:∀ k,k<w.heap.size->V k->¬ T k):XT V w' D bs:=by
 obtain ⟨hv,own,A,cap,hh,ho,hg⟩:=h;exact ⟨hv,own,A,cap,hc.heap hh (hd D (lt_of_block hh) hv),ho.chg hc fun k hk=>hd k (ho.lt hk) (hg k hk),hg⟩
theorem Zf (h:XT V w D bs) (hc:Chg (fun _=>False) w w'):XT V w' D bs:=h.chg hc (fun _ _ _ h=>h)
theorem mono (h:XT V w D bs) (hv':∀ k,k<w.heap.size->V k->V' k):XT V' w D bs:=by
 obtain ⟨hv,own,A,cap,hh,ho,hg⟩:=h;exact ⟨hv' D (lt_of_block hh) hv,own,A,cap,hh,ho,fun g e=>hv' g (ho.lt e) (hg g e)⟩
theorem lt (h:XT V w D bs):D<w.heap.size:=by
 obtain ⟨hv,own,A,cap,hh,ho,hg⟩:=h;exact lt_of_block hh
theorem alloc (h:XT V w D bs) (o:Obj):XT V (w.alloc o) D bs:=h.Zf ((Chg.refl _ w).alloc o)
end XT
def Vn (V:Nat->Prop) (w:World) (D:Nat) (bs:List UInt8) (e:Ending) (w':World):Prop:=e = .returned (.tuple #[])/\XT V w' D bs/\Chg V w w'
theorem PG (V:Nat->Prop) (w:World) (hV:V w.heap.size) :
  Calls prog 212 #[] w fun e w'=>e = .returned (.pointer (some ⟨w.heap.size,0,none⟩))/\XT V w' w.heap.size []/\Chg (fun _=>False) w w':=by
 go_enter func212,ntmps212
 go_wp2_with fail
 go_ret
 exact ⟨rfl,⟨hV,none,none,0,heap_alloc_new w _,Own.Xt _ _ _,(fun g h=>by cases h)⟩,(Chg.refl _ w).alloc _⟩
theorem Ls {P:Program} {a:Act} {w:World} {Q:Exit->Act->World->Prop} {c rest:Code} (l:Nat) (J:Act->World->Prop) (μ : Act->World->Nat) (hf:findLabel c l=some (Code.skip.seq rest))
  (pass:∀ a w,J a w->rest.wp P (Exit.jump l (fun a' w'=>J a' w' /\ μ a' w' < μ a w) Q) a w)
  (first:Hid (∀ a w,J a w->rest.wp P (Exit.jump l J Q) a w)->c.wp P (Exit.jump l J Q) a w):(Code.scope c).wp P Q a w :=
 wp_scope_jumps l J μ hf (first (Hd fun a w h=>Code.wp_mono (fun e a' w' hq=>by
  cases e <;> first | exact hq | exact ⟨hq.1,hq.2.1⟩) (pass a w h))) fun a w h=>wp_seq (wp_skip (pass a w h))
def Zj8 (V:Nat->Prop) (w0:World) (D:Nat) (goal:List UInt8) (N:Nat) (a:Act) (w:World):Prop :=
 ∃ (j m k:Nat) (bs:List UInt8) (x3 x4 x5 x7 x8 x9 yo yt lN yu yw yz yA yB yC yD x20 yE yF yG x24:Value),
  a={ tmps := #[.pointer (some ⟨D,0,none⟩),.int .u64 m,.int .i64 k,x3,x4,x5,.int .i64 j,x7,x8,x9,yo,yt,lN,yu,yw,yz,yA,yB,yC,yD,x20,yE,yF,yG,x24],defers:=[] } /\
  j<=8/\m<=18446744073709551615/\Hid (goal=bs++Ji j m)/\bs.length+j<=N/\XT V w D bs/\Chg V w0 w
theorem RK {V:Nat->Prop} {w:World} {D:Nat} {bs:List UInt8} (hd:XT V w D bs) (hV:∀ k,w.heap.size<=k->V k) (m k:Nat) (hm:m<=18446744073709551615) (hk:k<=8) (hroom:bs.length+k<=140737488355328) :
  Calls prog 351 #[.pointer (some ⟨D,0,none⟩),.int .u64 m,.int .i64 k] w (Vn V w D (bs++Ji k m)):=by
 have HV:=Hd hV;clear hV
 go_enter func351,ntmps351
 go_wp2_with fail
 refine Ls 0 (Zj8 V w D (bs++Ji k m) 140737488355328) (fun a' _=>(intOf (a'.tmps.getD 6 undef)).toNat) rfl ?_ ?_
 ·rintro a w1 ⟨j,m1,k1,bs1,x3,x4,x5,x7,x8,x9,yo,yt,lN,yu,yw,yz,yA,yB,yC,yD,x20,yE,yF,yG,x24,rfl,hj,hm1,HG,hN,hd1,hc1⟩;obtain ⟨hv,own,A,cap,hh,ho,hg⟩:=hd1;obtain ⟨c0,f0⟩:=one_cell hh;have hne:own≠some D:=ho.ne_ hh (by decide);rcases Nat.eq_zero_or_pos j with rfl | hj0
  ·go_wp2_with fail
   simp only [Exit.jump]
   go_end0
   refine ⟨rfl,?_,hc1⟩;rw [HG.out];simp only [Ji,List.append_nil];exact ⟨hv,own,A,cap,hh,ho,hg⟩
  ·have hjb:((j:Int)==0)=false:=beq_eq_false_iff_ne.2 (by omega);have hjn:(j:Int)-1=((j-1:Nat):Int):=by omega
   have hsrc:=Src.slice (P:=prog) (c:=1) (Own.fresh w1 [.int .u8 ((m1:Int)%256)] 5 (by simp)).cs;have hal:=ho.chg ((Chg.refl (fun _=>False) w1).alloc (.cells #[.int .u8 ((m1:Int)%256)] 5)) (fun _ _ h=>h)
   go_wp2_with (at_builtin; refine KW rfl _ _ 326 326 rfl 5 1 DA own A bs1.length cap (bv bs1) [.int .u8 ((m1:Int)%256)] _ rfl rfl hal hsrc (fun u hu=>by rw [List.mem_singleton.1 hu]; rfl) (bs1.length+1) rfl (by omega) (by omega) ?_)
   intro own' A' cap' w' hown hor ae;have hch:Chg (fun k=>own=some k) w1 w':=((Chg.refl _ w1).alloc _).trans ae (fun _ _ h=>h);have hh':=hch.heap hh (fun h=>hne h);obtain ⟨c0',sI⟩:=one_cell hh';clear c0 f0
   go_wp2_with fail
   go_step3
   have hle:Ji j m1=UInt8.ofNat (m1%256)::Ji (j-1) (m1 / 256):=by
    obtain ⟨i,rfl⟩:∃ i,j=i+1:=⟨j-1,by omega⟩
    rfl
   have hb:bv bs1++[Value.int .u8 ((m1:Int)%256)]=bv (bs1++[UInt8.ofNat (m1%256)]):=by rw [LX,Zcs]; rfl
   have hl1:(bs1++[UInt8.ofNat (m1%256)]).length=bs1.length+1:=by simp
   have hsz:=hch.size;have hne':own'≠some D:=hown.ne_ hh' (by decide);have hwin:Chg V w w':=hc1.trans hch (fun i _ h=>hg i h);refine ⟨rfl,⟨j-1,m1 / 256,k1,bs1++[UInt8.ofNat (m1%256)],_,_,_,_,_,_,_,_,_,_,_,_,_,_,_,_,_,_,_,_,_,rfl,by omega,by omega,Hd (by rw [HG.out,hle]; simp),by rw [hl1]; omega,⟨hv,own',A',cap',?_,?_,?_⟩,?_⟩,?_⟩
   ·rw [hl1]; exact Mz hh' _
   ·rw [hl1,<- hb]; exact hown.LZ hne' _
   ·intro g e;rcases hor with h0 | h0
    ·exact hg g (by rw [<- h0,e])
    ·have hg0:g=w1.heap.size+1:=by rw [e] at h0; injection h0
     have h3:=hc1.size;exact HV.out g (by omega)
   ·exact hwin.setCell (.inl hv) _
   ·simp [intOf]; omega
 ·intro H
  go_wp2_with fail
  go_step3
  rename_i hK;exact hK _ _ (H.out _ _ ⟨k,m,k,bs,_,_,_,_,_,_,_,_,_,_,_,_,_,_,_,_,_,_,_,_,_,rfl,hk,hm,Hd rfl,hroom,hd,Chg.refl _ _⟩)
def u64 (n:Int):Nat:=(n%18446744073709551616).toNat
theorem Zct (n:Int):((u64 n:Nat):Int)=n%18446744073709551616:=by unfold u64; omega
theorem MA (n:Int):u64 n<=18446744073709551615:=by unfold u64; omega
theorem MB (n:Int):IntKind.u64.wrap n=((u64 n:Nat):Int):=by
 rw [Zct];simp [IntKind.wrap,IntKind.signed,IntKind.bits]
theorem SU {V:Nat->Prop} {w:World} {D:Nat} {bs:List UInt8} (hd:XT V w D bs) (hV:∀ k,w.heap.size<=k->V k) (n:Int) (hroom:bs.length+1<=140737488355328) :
  Calls prog 333 #[.pointer (some ⟨D,0,none⟩),.int .i64 n] w (Vn V w D (bs++Ji 1 (u64 n))):=by
 have h:Calls prog 351 #[.pointer (some ⟨D,0,none⟩),.int .u64 (IntKind.u64.wrap n),.int .i64 1] w (Vn V w D (bs++Ji 1 (u64 n))):=by
  rw [MB];exact RK hd hV (u64 n) 1 (MA n) (by decide) hroom
 have H:=Hd h;clear h hV
 go_enter func333,ntmps333
 go_wp2_with fail
 refine H.out.mono ?_;rintro e w1 ⟨rfl,hd1,hc1⟩
 go_wp2_with fail
 go_end0
 exact ⟨rfl,hd1,hc1⟩
theorem GQ {V:Nat->Prop} {w:World} {D:Nat} {bs:List UInt8} (hd:XT V w D bs) (hV:∀ k,w.heap.size<=k->V k) (n:Int) (hroom:bs.length+2<=140737488355328) :
  Calls prog 436 #[.pointer (some ⟨D,0,none⟩),.int .i64 n] w (Vn V w D (bs++Ji 2 (u64 n))):=by
 have h:Calls prog 351 #[.pointer (some ⟨D,0,none⟩),.int .u64 (IntKind.u64.wrap n),.int .i64 2] w (Vn V w D (bs++Ji 2 (u64 n))):=by
  rw [MB];exact RK hd hV (u64 n) 2 (MA n) (by decide) hroom
 have H:=Hd h;clear h hV
 go_enter func436,ntmps436
 go_wp2_with fail
 refine H.out.mono ?_;rintro e w1 ⟨rfl,hd1,hc1⟩
 go_wp2_with fail
 go_end0
 exact ⟨rfl,hd1,hc1⟩
theorem DC {V:Nat->Prop} {w:World} {D:Nat} {bs:List UInt8} (hd:XT V w D bs) (hV:∀ k,w.heap.size<=k->V k) (n:Int) (hroom:bs.length+8<=140737488355328) :
  Calls prog 213 #[.pointer (some ⟨D,0,none⟩),.int .i64 n] w (Vn V w D (bs++Ji 8 (u64 n))):=by
 have h:Calls prog 351 #[.pointer (some ⟨D,0,none⟩),.int .u64 (IntKind.u64.wrap n),.int .i64 8] w (Vn V w D (bs++Ji 8 (u64 n))):=by
  rw [MB];exact RK hd hV (u64 n) 8 (MA n) (by decide) hroom
 have H:=Hd h;clear h hV
 go_enter func213,ntmps213
 go_wp2_with fail
 refine H.out.mono ?_;rintro e w1 ⟨rfl,hd1,hc1⟩
 go_wp2_with fail
 go_end0
 exact ⟨rfl,hd1,hc1⟩
theorem DD {V:Nat->Prop} {w:World} {D:Nat} {bs:List UInt8} (hd:XT V w D bs) (hV:∀ k,w.heap.size<=k->V k) (s:ByteArray) (hroom:bs.length+2+s.size<=140737488355328) :
  Calls prog 332 #[.pointer (some ⟨D,0,none⟩),.string s] w (Vn V w D (bs++(Ji 2 s.size++s.data.toList))):=by
 have h:Calls prog 436 #[.pointer (some ⟨D,0,none⟩),.int .i64 (s.size:Int)] w (Vn V w D (bs++Ji 2 s.size)):=by
  have e:u64 (s.size:Int)=s.size:=by unfold u64; omega
  have:=GQ hd hV (s.size:Int) (by omega)
  rwa [e] at this
 have H:=Hd h;have HV:=Hd hV;clear h hV
 go_enter func332,ntmps332
 go_wp2_with fail
 refine H.out.mono ?_;rintro e w1 ⟨rfl,⟨hv,own,A,cap,hh,ho,hg⟩,hc1⟩;have hl2:(bs++Ji 2 s.size).length=bs.length+2:=by rw [List.length_append,ZH]
 have hse:s.data.toList.length=s.size:=by rw [Array.length_toList]; rfl
 have hn2:(bv s.data.toList).length=s.size:=by rw [Yc,hse]
 rw [hl2] at hh ho;have HL2:=Hd hl2;have I4:=Hd hse;have eZ:=Hd hn2;clear hl2 hse hn2;obtain ⟨c0,f0⟩:=one_cell hh;have hne:own≠some D:=ho.ne_ hh (by decide);have hsrc:=Src.string (P:=prog) (w:=w1) s;rw [ZaP] at hsrc
 go_wp2_with (at_builtin; refine KW rfl _ _ 326 9 rfl 5 1 ZaS own A (bs.length+2) cap _ (bv s.data.toList) _ rfl rfl ho hsrc (Zcl _) (bs.length+2+s.size) ?_ (by omega) (by omega) ?_)
 ·rw [eZ.out]
 intro own' A' cap' w' hown hor ae;have hh':=ae.heap hh (fun h=>hne h);obtain ⟨c0',sI⟩:=one_cell hh';have hne':own'≠some D:=hown.ne_ hh' (by decide);have hsz:=hc1.size;have hlen:(bs++(Ji 2 s.size++s.data.toList)).length=bs.length+2+s.size:=by rw [List.length_append,List.length_append,ZH,I4.out]; omega
 have HLEN:=Hd hlen;clear c0 f0 hlen
 go_wp2_with fail
 go_end0
 refine ⟨rfl,⟨hv,own',A',cap',?_,?_,?_⟩,(hc1.trans ae (fun i _ h=>hg i h)).setCell (.inl hv) _⟩
 ·rw [HLEN.out]; exact Mz hh' _
 ·rw [HLEN.out,<- List.append_assoc,LX]; exact hown.LZ hne' _
 ·intro g e;rcases hor with h0 | h0
  ·exact hg g (by rw [<- h0,e])
  ·have hg0:g=w1.heap.size:=by rw [e] at h0; injection h0
   exact HV.out g (by omega)
theorem BY {V:Nat->Prop} {w:World} {D:Nat} {bs:List UInt8} (hd:XT V w D bs) (hm:bs.length<=140737488355328) :
  Calls prog 214 #[.pointer (some ⟨D,0,none⟩)] w (Zcr w bs.length bs):=by
 obtain ⟨hv,own,A,cap,hh,ho,hg⟩:=hd;obtain ⟨c0,f0⟩:=one_cell hh
 go_enter func214,ntmps214
 go_wp2_with fail
 refine (DB ho.cs hm).mono ?_;rintro e w' ⟨o',A',cap',rfl,hown,hnew,ae⟩
 go_wp2_with fail
 go_ret
 exact ⟨o',A',cap',rfl,hown,hnew,ae⟩
end
section
open Go Go.MapKept
open Go.ChangeMaps (setBlock)
def QM (k:List UInt8):Value := .string ⟨⟨k⟩⟩
theorem Ki {a b:List UInt8} (h:QM a=QM b):a=b:=by
 unfold QM at h;injection h with h
 injection h with h
 injection h
theorem X1 (k:List UInt8):IsKey .string (QM k):=trivial
def upd (f:List UInt8->Option Value) (k:List UInt8) (v:Option Value):List UInt8->Option Value:=fun x=>if x=k then v else f x
theorem Z6 (f:List UInt8->Option Value) (k:List UInt8) (v:Option Value):upd f k v k=v:=if_pos rfl
theorem QE (f:List UInt8->Option Value) {k x:List UInt8} (v:Option Value) (h:x≠k):upd f k v x=f x:=if_neg h
structure KY (es:Array MapEntry) (clock:Nat) (f:List UInt8->Option Value):Prop where
 st:Stamped es clock
 to:∀ e∈es.toList,∃ k,e.key=QM k/\f k=some e.val
 of:∀ k v,f k=some v->∃ e∈es.toList,e.key=QM k/\e.val=v
theorem KY.keys {es:Array MapEntry} {clock:Nat} {f:List UInt8->Option Value} (h:KY es clock f):∀ x∈es.toList,IsKey .string x.key:=fun x hx=>by
 obtain ⟨k,e,_⟩:=h.to x hx;rw [e];exact X1 k
theorem KY.inj {es:Array MapEntry} {clock:Nat} {f:List UInt8->Option Value} (h:KY es clock f) {x y:MapEntry} (hx:x∈es.toList) (hy:y∈es.toList) (e:x.key=y.key):x=y :=
 entry_eq_of_key ((stamped_iff es clock).1 h.st).2.2 hx hy e
theorem KY.find {es:Array MapEntry} {clock:Nat} {f:List UInt8->Option Value} (h:KY es clock f) (k:List UInt8) :
  (Instr.findNow .string (QM k) es.toList 0=some none/\f k=none/\∀ x∈es.toList,x.key≠QM k)\/∃ j e,Instr.findNow .string (QM k) es.toList 0=some (some (j,e.val))/\es.toList[j]? = some e/\e.key=QM k/\f k=some e.val:=by
 rcases findNow_spec (X1 k) es.toList 0 h.keys with ⟨h1,h2⟩ | ⟨j,e,h1,h2,h3⟩
 ·refine .inl ⟨h1,?_,h2⟩;cases hf:f k with
  | none=>rfl
  | some v =>
   obtain ⟨e,he,hk,_⟩:=h.of k v hf;exact absurd hk (h2 e he)
 ·rw [Nat.zero_add] at h1;obtain ⟨k',e1,e2⟩:=h.to e (List.mem_of_getElem? h2);have:k'=k:=Ki (e1.symm.trans h3);subst this;exact .inr ⟨j,e,h1,h2,h3,e2⟩
theorem KY.empty (clock:Nat):KY #[] clock (fun _=>none):=⟨stamped_empty clock,fun e h=>(by simp at h),fun k v h=>(by cases h)⟩
variable {P:Program} {t kt et:TypeId} {w:World} {b:Nat} {es:Array MapEntry} {clock:Nat} {f:List UInt8->Option Value}
theorem KY.look (h:KY es clock f) (ht:P.underlying t=some (.map kt et)) (hk:P.underlying kt=some .string) {z:Value} (hz:(zeroValue et).run P w = .ok z w) (hb:w.heap[b]? = some (.map es clock)) (k:List UInt8) (c:Bool) :
  (Instr.lookup t (.map (some b)) (QM k) c).run P w = .ok (if c then .tuple #[(f k).getD z,.bool (f k).isSome] else (f k).getD z) w:=by
 rcases h.find k with ⟨h1,h2,_⟩ | ⟨j,e,h1,_,_,h2⟩
 ·rw [h2];simp [Instr.lookup,run_underlying ht,MapKept.run_getObj_map hb,MapKept.run_checkKey hk (X1 k),MapKept.run_findKey hk h1,hz,Result.andThen]
 ·rw [h2];simp [Instr.lookup,run_underlying ht,MapKept.run_getObj_map hb,MapKept.run_checkKey hk (X1 k),MapKept.run_findKey hk h1,Result.andThen]
theorem YJ (es:Array MapEntry) (j:Nat) (g:MapEntry->MapEntry):(es.modify j g).toList=es.toList.modify j g:=by simp
theorem mem_modify {es:List MapEntry} {j:Nat} {e:MapEntry} (g:MapEntry->MapEntry) (hj:es[j]? = some e) (hn:(es.map (·.born)).Nodup) (x:MapEntry):x∈es.modify j g↔x=g e\/x∈es/\x≠e:=by
 constructor
 ·intro hx;obtain ⟨i,hi⟩:=List.getElem?_of_mem hx;rw [List.getElem?_modify] at hi;by_cases hij:j=i
  ·subst hij;rw [hj] at hi;simp at hi;exact .inl hi.symm
  ·simp [hij] at hi;refine .inr ⟨List.mem_of_getElem? hi,fun e1=>hij ?_⟩;subst e1;have hl1:=(List.getElem?_eq_some_iff.1 hj).1;have hl2:=(List.getElem?_eq_some_iff.1 hi).1;have:=(List.getElem?_inj (by simpa using hl1) hn (j:=i)).1 (by rw [List.getElem?_map,List.getElem?_map,hj,hi]);exact this
 ·rintro (rfl | ⟨hx,hne⟩)
  ·refine List.mem_of_getElem? (i:=j) ?_;rw [List.getElem?_modify,hj];simp
  ·obtain ⟨i,hi⟩:=List.getElem?_of_mem hx;refine List.mem_of_getElem? (i:=i) ?_;rw [List.getElem?_modify,hi];have:j≠i:=fun e1=>by subst e1; rw [hj] at hi; injection hi with hi; exact hne hi.symm
   simp [this]
theorem KY.store (h:KY es clock f) (ht:P.underlying t=some (.map kt et)) (hk:P.underlying kt=some .string) (hb:w.heap[b]? = some (.map es clock)) (k:List UInt8) (v:Value) :
  ∃ es' clock',(Instr.mapUpdate t (.map (some b)) (QM k) v).run P w = .ok () (setBlock w b (.map es' clock'))/\KY es' clock' (upd f k (some v))/\clock<=clock' /\
   (f k≠none->clock'=clock/\∀ x',x'∈es'.toList↔∃ x∈es.toList,x'.born=x.born/\x'.key=x.key/\(x.key=QM k->x'.val=v)/\(x.key≠QM k->x'.val=x.val))/\(f k≠none->es'.toList.map (·.born)=es.toList.map (·.born)):=by
 rcases h.find k with ⟨h1,h2,h3⟩ | ⟨j,e,h1,h2,h3,h4⟩
 ·refine ⟨es.push { key:=QM k,val:=v,born:=clock },clock+1,?_,⟨stamped_push h.st h3,fun x hx => ?_,fun x u hx => ?_⟩,Nat.le_succ _,fun hn=>absurd h2 hn,fun hn=>absurd h2 hn⟩
  ·simp [Instr.mapUpdate,run_underlying ht,MapKept.run_getObj_map hb,MapKept.run_checkKey hk (X1 k),MapKept.run_findKey hk h1,MapKept.run_setObj_map _ hb,Result.andThen,setBlock]
  ·rw [Array.toList_push] at hx;rcases List.mem_append.1 hx with hx | hx
   ·obtain ⟨k',e1,e2⟩:=h.to x hx;exact ⟨k',e1,by rw [QE _ _ fun e3=>h3 x hx (by rw [e1,e3])]; exact e2⟩
   ·rw [List.mem_singleton.1 hx];exact ⟨k,rfl,Z6 _ _ _⟩
  ·rw [Array.toList_push];by_cases hxk:x=k
   ·subst hxk;rw [Z6] at hx;cases hx;exact ⟨_,List.mem_append_right _ (List.mem_singleton.2 rfl),rfl,rfl⟩
   ·rw [QE _ _ hxk] at hx;obtain ⟨e,he,e1,e2⟩:=h.of x u hx;exact ⟨e,List.mem_append_left _ he,e1,e2⟩
 ·have hj:es[j]? = some e:=by simpa using h2
  have hst:=(stamped_iff es clock).1 h.st;have hkey:∀ e',es[j]? = some e'->({ e' with key:=QM k,val:=v }:MapEntry).key=e'.key:=fun e' he'=>by rw [hj] at he'; cases he'; exact h3.symm
  have hmm:∀ x',x'∈(es.modify j fun e=>{ e with key:=QM k,val:=v }).toList↔x'={ e with key:=QM k,val:=v }\/x'∈es.toList/\x'≠e:=fun x'=>by
   rw [YJ];exact mem_modify _ h2 hst.2.1 x'
  have he:=List.mem_of_getElem? h2;refine ⟨es.modify j fun e=>{ e with key:=QM k,val:=v },clock,?_,⟨stamped_modify h.st _ _ (fun _ _=>rfl) (fun e' _ he'=>hkey e' he'),fun x hx => ?_,fun x u hx => ?_⟩,Nat.le_refl _,fun _=>⟨rfl,fun x' => ?_⟩,fun _ => ?_⟩
  ·simp [Instr.mapUpdate,run_underlying ht,MapKept.run_getObj_map hb,MapKept.run_checkKey hk (X1 k),MapKept.run_findKey hk h1,hj,h3,MapKept.run_keyThatStays (X1 k),MapKept.run_setObj_map _ hb,Result.andThen,setBlock]
  ·rcases (hmm x).1 hx with rfl | ⟨hx,hne⟩
   ·exact ⟨k,rfl,Z6 _ _ _⟩
   ·obtain ⟨k',e1,e2⟩:=h.to x hx;exact ⟨k',e1,by rw [QE _ _ fun e3=>hne (h.inj hx he (by rw [e1,e3,h3]))]; exact e2⟩
  ·by_cases hxk:x=k
   ·subst hxk;rw [Z6] at hx;cases hx;exact ⟨_,(hmm _).2 (.inl rfl),rfl,rfl⟩
   ·rw [QE _ _ hxk] at hx;obtain ⟨y,hy,e1,e2⟩:=h.of x u hx;exact ⟨y,(hmm _).2 (.inr ⟨hy,fun e3=>hxk (Ki (by rw [<- e1,e3,h3]))⟩),e1,e2⟩
  ·rw [hmm];constructor
   ·rintro (rfl | ⟨hx,hne⟩)
    ·exact ⟨e,he,rfl,h3.symm,fun _=>rfl,fun h=>absurd h3 h⟩
    ·exact ⟨x',hx,rfl,rfl,fun e3=>absurd (h.inj hx he (e3.trans h3.symm)) hne,fun _=>rfl⟩
   ·rintro ⟨x,hx,e1,e2,e3,e5⟩;by_cases hxk:x.key=QM k
    ·replace e3:=e3 hxk
     have:x=e:=h.inj hx he (hxk.trans h3.symm);subst this
     left
     cases x';simp only at e1 e2 e3;rw [e1,e2,e3,hxk]
    ·replace e3:=e5 hxk
     have:x'=x:=by
      cases x'; cases x
      simp only at e1 e2 e3;rw [e1,e2,e3]
     subst this;exact .inr ⟨hx,fun e4=>hxk (e4▸h3)⟩
  ·rw [YJ];refine List.ext_getElem? fun i => ?_;rw [List.getElem?_map,List.getElem?_map,List.getElem?_modify];cases hi:es.toList[i]? with
   | none=>rfl
   | some x=>by_cases hji:j=i <;> simp [hji]
theorem KY.drop (h:KY es clock f) (ht:P.underlying t=some (.map kt et)) (hk:P.underlying kt=some .string) (hb:w.heap[b]? = some (.map es clock)) (k:List UInt8) (ty:TypeId) :
  ∃ es',(Builtin.delete_ #[t,kt] ty #[.map (some b),QM k]).run P w = .ok (.tuple #[]) (setBlock w b (.map es' clock))/\KY es' clock (upd f k none):=by
 rcases h.find k with ⟨h1,h2,h3⟩ | ⟨j,e,h1,h2,h3,h4⟩
 ·refine ⟨es,?_,⟨h.st,fun x hx => ?_,fun x u hx => ?_⟩⟩
  ·simp [Builtin.delete_,run_underlying ht,MapKept.run_getObj_map hb,MapKept.run_checkKey hk (X1 k),MapKept.run_findKey hk h1,MapKept.run_setObj_map _ hb,Result.andThen,setBlock]
  ·obtain ⟨k',e1,e2⟩:=h.to x hx;exact ⟨k',e1,by rw [QE _ _ fun e3=>h3 x hx (by rw [e1,e3])]; exact e2⟩
  ·by_cases hxk:x=k
   ·subst hxk; rw [Z6] at hx; cases hx
   ·rw [QE _ _ hxk] at hx; exact h.of x u hx
 ·have hjl:j<es.toList.length:=(List.getElem?_eq_some_iff.1 h2).1;have hjs:j<es.size:=by simpa using hjl
  have hst:=(stamped_iff es clock).1 h.st
  have hsub:(es.eraseIdxIfInBounds j).toList=es.toList.eraseIdx j:=by
   unfold Array.eraseIdxIfInBounds;rw [dif_pos hjs];simp
  have he:=List.mem_of_getElem? h2
  have hmm:∀ x,x∈(es.eraseIdxIfInBounds j).toList↔x∈es.toList/\x≠e:=fun x=>by
   rw [hsub,List.mem_eraseIdx_iff_getElem?];constructor
   ·rintro ⟨i,hne,hi⟩;refine ⟨List.mem_of_getElem? hi,fun e1=>hne ?_⟩;subst e1;have hl2:=(List.getElem?_eq_some_iff.1 hi).1;exact (List.getElem?_inj (by simpa using hl2) hst.2.1).1 (by rw [List.getElem?_map,List.getElem?_map,hi,h2])
   ·rintro ⟨hx,hne⟩;obtain ⟨i,hi⟩:=List.getElem?_of_mem hx;exact ⟨i,fun e1=>hne (by rw [e1,h2] at hi; injection hi with hi; exact hi.symm),hi⟩
  refine ⟨es.eraseIdxIfInBounds j,?_,⟨stamped_erase h.st j,fun x hx => ?_,fun x u hx => ?_⟩⟩
  ·simp [Builtin.delete_,run_underlying ht,MapKept.run_getObj_map hb,MapKept.run_checkKey hk (X1 k),MapKept.run_findKey hk h1,MapKept.run_setObj_map _ hb,Result.andThen,setBlock]
  ·obtain ⟨hx,hne⟩:=(hmm x).1 hx;obtain ⟨k',e1,e2⟩:=h.to x hx;exact ⟨k',e1,by rw [QE _ _ fun e3=>hne (h.inj hx he (by rw [e1,e3,h3]))]; exact e2⟩
  ·by_cases hxk:x=k
   ·subst hxk; rw [Z6] at hx; cases hx
   ·rw [QE _ _ hxk] at hx;obtain ⟨y,hy,e1,e2⟩:=h.of x u hx;exact ⟨y,(hmm y).2 ⟨hy,fun e3=>hxk (Ki (by rw [<- e1,e3,h3]))⟩,e1,e2⟩
theorem MC:∀ {l:List MapEntry} {KS:List (List UInt8)},l.Pairwise (fun x y=>x.key≠y.key)->(∀ x∈l,∃ k,x.key=QM k/\k∈KS)->l.length<=KS.length
 | [],_,_,_=>Nat.zero_le _
 | x::l,KS,hp,h=>by
  obtain ⟨h1,h2⟩:=List.pairwise_cons.1 hp;obtain ⟨k,e,hk⟩:=h x List.mem_cons_self
  have:=MC (KS:=KS.erase k) h2 fun y hy=>by
   obtain ⟨k',e',hk'⟩:=h y (List.mem_cons_of_mem _ hy);refine ⟨k',e',?_⟩;have hne:k'≠k:=fun e2=>h1 y hy (by rw [e,e',e2]);exact (List.mem_erase_of_ne hne).2 hk'
  have hl:=List.length_erase_of_mem hk;have hpos:0<KS.length:=List.length_pos_of_mem hk;rw [List.length_cons];omega
def QA (w:World) (b:Nat) (f:List UInt8->Option Value):Prop:=∃ es clock,w.heap[b]? = some (.map es clock)/\KY es clock f
theorem QA.lt (h:QA w b f):b<w.heap.size:=by
 obtain ⟨es,c,hb,_⟩:=h;exact (Array.getElem?_eq_some_iff.1 hb).1
theorem QA.chg {T:Nat->Prop} {w':World} (h:QA w b f) (hc:Chg T w w') (hn:¬ T b):QA w' b f:=by
 obtain ⟨es,c,hb,h⟩:=h;exact ⟨es,c,hc.heap hb hn,h⟩
theorem Chg.MD {T:Nat->Prop} {a w:World} {b:Nat} (h:Chg T a w) (hT:T b\/a.heap.size<=b) (o:Obj):Chg T a (setBlock w b o):=by
 refine ⟨h.os,h.tape,h.output,by simp only [setBlock,Array.size_setIfInBounds]; exact h.size,fun k hk hn => ?_⟩
 have hne:b≠k:=by
  rintro rfl;rcases hT with hT | hT
  ·exact hn hT
  ·omega
 simp only [setBlock];rw [Array.getElem?_setIfInBounds_ne hne];exact h.block k hk hn
theorem QA.look (h:QA w b f) (ht:P.underlying t=some (.map kt et)) (hk:P.underlying kt=some .string) {z:Value} (hz:(zeroValue et).run P w = .ok z w) (k:List UInt8) (c:Bool) :
  (Instr.lookup t (.map (some b)) (QM k) c).run P w = .ok (if c then .tuple #[(f k).getD z,.bool (f k).isSome] else (f k).getD z) w:=by
 obtain ⟨es,cl,hb,h⟩:=h;exact h.look ht hk hz hb k c
theorem QA.store (h:QA w b f) (ht:P.underlying t=some (.map kt et)) (hk:P.underlying kt=some .string) (k:List UInt8) (v:Value) :
  ∃ w',(Instr.mapUpdate t (.map (some b)) (QM k) v).run P w = .ok () w'/\QA w' b (upd f k (some v))/\Chg (fun i=>i=b) w w'/\w'.heap.size=w.heap.size:=by
 obtain ⟨es,cl,hb,h⟩:=h;obtain ⟨es',cl',h1,h2,_,_⟩:=h.store ht hk hb k v;exact ⟨_,h1,⟨es',cl',(heap_set hb).1,h2⟩,Chg.MD (T:=fun i=>i=b) (Chg.refl _ w) (.inl rfl) _,by simp [setBlock]⟩
theorem QA.drop (h:QA w b f) (ht:P.underlying t=some (.map kt et)) (hk:P.underlying kt=some .string) (k:List UInt8) (ty:TypeId) :
  ∃ w',(Builtin.delete_ #[t,kt] ty #[.map (some b),QM k]).run P w = .ok (.tuple #[]) w'/\QA w' b (upd f k none)/\Chg (fun i=>i=b) w w'/\w'.heap.size=w.heap.size:=by
 obtain ⟨es,cl,hb,h⟩:=h;obtain ⟨es',h1,h2⟩:=h.drop ht hk hb k ty;exact ⟨_,h1,⟨es',cl,(heap_set hb).1,h2⟩,Chg.MD (T:=fun i=>i=b) (Chg.refl _ w) (.inl rfl) _,by simp [setBlock]⟩
def J5 (w:World) (r b:Nat) (f:List UInt8->Option Value) (left:List UInt8->Bool) (cnt:Nat):Prop :=
 ∃ es clock since seen c0,w.heap[b]? = some (.map es clock)/\KY es clock f/\w.heap[r]? = some (.mapIter (some b) since seen c0)/\(∀ x∈es.toList,x.born<since)/\(leftOf es seen).size=cnt /\
  (∀ x∈es.toList,∀ k,x.key=QM k->left k = !seen.contains x.born)/\(∀ k,left k=true->f k≠none)/\since<=c0/\since<=clock
def Yd (w:World) (r b:Nat):Nat :=
 match w.heap[b]?,w.heap[r]? with
 | some (.map es _),some (.mapIter _ _ seen _)=>(leftOf es seen).size
 | _,_=>0
variable {r:Nat} {left:List UInt8->Bool} {cnt:Nat}
theorem J5.left_eq (h:J5 w r b f left cnt):Yd w r b=cnt:=by
 obtain ⟨es,clock,since,seen,c0,hb,_,hr,_,hc,_⟩:=h;simp only [Yd,hb,hr];exact hc
theorem J5.map (h:J5 w r b f left cnt):QA w b f:=by
 obtain ⟨es,clock,since,seen,c0,hb,he,_⟩:=h;exact ⟨es,clock,hb,he⟩
theorem J5.ne (h:J5 w r b f left cnt):r≠b:=by
 obtain ⟨es,clock,since,seen,c0,hb,he,hr,_⟩:=h;rintro rfl;rw [hb] at hr;cases hr
theorem J5.lt (h:J5 w r b f left cnt):r<w.heap.size:=by
 obtain ⟨es,clock,since,seen,c0,hb,he,hr,_⟩:=h;exact (Array.getElem?_eq_some_iff.1 hr).1
theorem J5.chg {T:Nat->Prop} {w':World} (h:J5 w r b f left cnt) (hc:Chg T w w') (hb':¬ T b) (hr':¬ T r):J5 w' r b f left cnt:=by
 obtain ⟨es,clock,since,seen,c0,hb,he,hr,rest⟩:=h;exact ⟨es,clock,since,seen,c0,hc.heap hb hb',he,hc.heap hr hr',rest⟩
theorem QA.range (h:QA w b f) (ht:P.underlying t=some (.map kt et)) :
  ∃ w',(Instr.range t (.map (some b))).run P w = .ok (.pointer (some ⟨w.heap.size,0,none⟩)) w'/\(∃ cnt,J5 w' w.heap.size b f (fun k=>(f k).isSome) cnt/\∀ KS:List (List UInt8),(∀ k,f k≠none->k∈KS)->cnt<=KS.length)/\Chg (fun _=>False) w w'/\w'.heap.size=w.heap.size+1:=by
 have hlt:=h.lt;obtain ⟨es,clock,hb,h⟩:=h;refine ⟨_,run_range_map w t kt et b es clock ht hb,⟨_,⟨es,clock,clock,#[],clock,((MapKept.heap_alloc w _).2 b hlt).trans hb,h,(MapKept.heap_alloc w _).1,h.st.1,rfl,fun x hx k hk => ?_,fun k hk => ?_,Nat.le_refl _,Nat.le_refl _⟩,fun KS sJ => ?_⟩,(Chg.refl _ w).alloc _,by simp⟩
 ·obtain ⟨k',e1,e2⟩:=h.to x hx;have:k'=k:=Ki (e1.symm.trans hk);subst this;show (f k').isSome=_;rw [e2];simp
 ·intro e;have hk:(f k).isSome=true:=hk;rw [e] at hk;cases hk
 ·have e1:(leftOf es #[]).size=es.toList.length:=by simp [leftOf]
  rw [e1]
  exact MC ((stamped_iff es clock).1 h.st).2.2 fun x hx=>by
   obtain ⟨k,e2,e3⟩:=h.to x hx;exact ⟨k,e2,sJ k (by rw [e3]; exact fun h=>by cases h)⟩
theorem J5.next (h:J5 w r b f left cnt) (ty:TypeId) :
  (cnt=0/\(∀ k,left k=false)/\(Instr.next (.pointer (some ⟨r,0,none⟩)) false ty).run P w = .ok (.tuple #[.bool false]) w) \/
  ∃ k v w' cnt',left k=true/\f k=some v/\(Instr.next (.pointer (some ⟨r,0,none⟩)) false ty).run P w = .ok (.tuple #[.bool true,QM k,v]) w'/\J5 w' r b f (fun x=>left x && !decide (x=k)) cnt'/\cnt'<cnt/\Chg (fun i=>i=r) w w' /\
   w'.heap.size=w.heap.size/\(Instr.entry (.pointer (some ⟨r,0,none⟩))).run P w' = .ok (.tuple #[QM k,v]) w':=by
 have hne:=h.ne;obtain ⟨es,clock,since,seen,c0,hb,he,hr,hold,rfl,hl1,hl2,hsc,hsk⟩:=h;have hst:=(stamped_iff es clock).1 he.st;rcases run_next_at (P:=P) w ty r b since c0 seen es clock hr hb hold hsc with ⟨h0,hrun⟩ | ⟨e,hel,w1,hal,hrun⟩
 ·refine .inl ⟨h0,fun k => ?_,hrun⟩;cases hk:left k
  ·rfl
  ·obtain ⟨v,hv⟩:=Option.ne_none_iff_exists'.1 (hl2 k hk);obtain ⟨x,hx,e1,_⟩:=he.of k v hv;rw [hl1 x hx k e1,all_seen es seen h0 x hx] at hk;cases hk
 ·obtain ⟨hem,hes⟩:=mem_left hel;obtain ⟨k,ek,ev⟩:=he.to e hem;have hr1:w1.heap[r]? = some (.mapIter (some b) since seen c0):=by rcases hal with rfl | rfl <;> exact hr
  have hb1:w1.heap[b]? = some (.map es clock):=by rcases hal with rfl | rfl <;> exact hb
  have hset:=heap_set (o' := .mapIter (some b) since (seen.push e.born) clock) hr1;have hb':(setBlock w1 r (.mapIter (some b) since (seen.push e.born) clock)).heap[b]? = some (.map es clock):=(hset.2 b (fun e1=>hne e1.symm)).trans hb1
  refine .inr ⟨k,e.val,_,_,by rw [hl1 e hem k ek,hes]; rfl,ev,ek▸hrun,⟨es,clock,since,seen.push e.born,clock,hb',he,hset.1,hold,rfl,fun x hx k' hk' => ?_,fun k' hk'=>hl2 k' (by simp at hk'; exact hk'.1),hsk,hsk⟩,
   left_shrinks es seen e hel,?_,?_,ek▸run_entry_at _ r b since seen es clock e hset.1 hb' hem hst.2.1⟩
  ·show (left k' && !decide (k'=k))=_;rw [hl1 x hx k' hk',contains_push];by_cases hb0:x.born=e.born
   ·have hxe:=born_inj hst.2.1 hx hem hb0;subst hxe;have:k'=k:=Ki (hk'.symm.trans ek);subst this;simp
   ·have:k'≠k:=fun e1=>hb0 (by subst e1; rw [he.inj hx hem (hk'.trans ek.symm)]);simp [this,hb0]
  ·rcases hal with rfl | rfl
   ·exact Chg.MD (T:=fun i=>i=r) (Chg.refl _ _) (.inl rfl) _
   ·exact Chg.MD (T:=fun i=>i=r) (Chg.refl _ w).drew (.inl rfl) _
  ·rcases hal with rfl | rfl <;> simp [setBlock]
theorem J5.store (h:J5 w r b f left cnt) (ht:P.underlying t=some (.map kt et)) (hk:P.underlying kt=some .string) {k:List UInt8} (hf:f k≠none) (v:Value) :
  ∃ w',(Instr.mapUpdate t (.map (some b)) (QM k) v).run P w = .ok () w'/\J5 w' r b (upd f k (some v)) left cnt/\Chg (fun i=>i=b) w w'/\w'.heap.size=w.heap.size:=by
 have hne:=h.ne;obtain ⟨es,clock,since,seen,c0,hb,he,hr,hold,rfl,hl1,hl2,hsc,hsk⟩:=h;obtain ⟨es',cl',h1,h2,_,h3,h4⟩:=he.store ht hk hb k v;obtain ⟨rfl,h9⟩:=h3 hf;refine ⟨_,h1,⟨es',_,since,seen,c0,(heap_set hb).1,h2,((heap_set hb).2 r hne).trans hr,fun x hx => ?_,?_,fun x hx k' hk' => ?_,fun k' hk' => ?_,hsc,hsk⟩,Chg.MD (T:=fun i=>i=b) (Chg.refl _ w) (.inl rfl) _,by simp [setBlock]⟩
 ·obtain ⟨y,hy,e1,_⟩:=(h9 x).1 hx;rw [e1];exact hold y hy
 ·have e1:∀ a:Array MapEntry,(leftOf a seen).size=((a.toList.map (·.born)).filter fun e => !seen.contains e).length:=fun a=>by
   unfold leftOf;rw [List.filter_map,List.length_map,<- Array.length_toList,Array.toList_filter];rfl
  rw [e1,e1,h4 hf]
 ·obtain ⟨y,hy,e1,e2,_⟩:=(h9 x).1 hx;rw [e1];exact hl1 y hy k' (e2▸hk')
 ·by_cases hkk:k'=k
  ·rw [hkk,Z6]; exact fun h=>by cases h
  ·rw [QE _ _ hkk]; exact hl2 k' hk'
section
variable {ops:Array Oper} {rest:List Oper} {o:Oper} {a:Act} {Q:Exit->Act->World->Prop}
theorem Jx (h:QA w b f) (hg:o.guard=none) (m x:Operand) (c:Bool) (hop:o.op=Op.lookup t m x c) (ht:P.underlying t=some (.map kt et)) (hk:P.underlying kt=some .string) {z:Value} (hz:(zeroValue et).run P w = .ok z w)
  (k:List UInt8) (hm:a.eval m = .map (some b)) (hx:a.eval x=QM k)
  (hK:wpList P ops Q rest (a.put o.dst (if c then .tuple #[(f k).getD z,.bool (f k).isSome] else (f k).getD z)) w):wpList P ops Q (o::rest) a w:=by
 refine wpList_plain hg fun K' hK' => ?_;unfold Oper.wp;have hl:=h.look ht hk hz k c
 revert hl
 generalize (if c then Value.tuple #[(f k).getD z,.bool (f k).isSome] else (f k).getD z)=u at hK
 intro hl;simp [execOp,hop,hm,hx,hl,Result.andThen];exact hK' _ _ hK
theorem YK (h:QA w b f) (hg:o.guard=none) (m x v:Operand) (hop:o.op=Op.mapUpdate t m x v) (ht:P.underlying t=some (.map kt et)) (hk:P.underlying kt=some .string)
  (k:List UInt8) (u:Value) (hm:a.eval m = .map (some b)) (hx:a.eval x=QM k) (hv:a.eval v=u)
  (hK:∀ w',QA w' b (upd f k (some u))->Chg (fun i=>i=b) w w'->w'.heap.size=w.heap.size->wpList P ops Q rest (a.put o.dst undef) w'):wpList P ops Q (o::rest) a w:=by
 refine wpList_plain hg fun K' hK' => ?_;obtain ⟨w',hrun,r1,r2,r3⟩:=h.store ht hk k u;unfold Oper.wp;simp [execOp,hop,hm,hx,hv,hrun,Result.andThen];exact hK' _ _ (hK w' r1 r2 r3)
theorem Lt (h:J5 w r b f left cnt) (hg:o.guard=none) (m x v:Operand) (hop:o.op=Op.mapUpdate t m x v) (ht:P.underlying t=some (.map kt et)) (hk:P.underlying kt=some .string)
  (k:List UInt8) (u:Value) (hm:a.eval m = .map (some b)) (hx:a.eval x=QM k) (hv:a.eval v=u) (hf:f k≠none)
  (hK:∀ w',J5 w' r b (upd f k (some u)) left cnt->Chg (fun i=>i=b) w w'->w'.heap.size=w.heap.size->wpList P ops Q rest (a.put o.dst undef) w'):wpList P ops Q (o::rest) a w:=by
 refine wpList_plain hg fun K' hK' => ?_;obtain ⟨w',hrun,r1,r2,r3⟩:=h.store ht hk hf u;unfold Oper.wp;simp [execOp,hop,hm,hx,hv,hrun,Result.andThen];exact hK' _ _ (hK w' r1 r2 r3)
theorem GR (h:QA w b f) (hg:o.guard=none) (m x:Operand) (hop:o.op=Op.call { callee:=Callee.builtin Builtin.delete,args := #[m,x],argTypes := #[t,kt] }) (ht:P.underlying t=some (.map kt et)) (hk:P.underlying kt=some .string)
  (k:List UInt8) (hm:a.eval m = .map (some b)) (hx:a.eval x=QM k)
  (hK:∀ w',QA w' b (upd f k none)->Chg (fun i=>i=b) w w'->w'.heap.size=w.heap.size->wpList P ops Q rest (a.put o.dst (.tuple #[])) w'):wpList P ops Q (o::rest) a w:=by
 refine wpList_plain hg fun K' hK' => ?_;obtain ⟨w',hrun,r1,r2,r3⟩:=h.drop ht hk k o.type;unfold Oper.wp;simp [execOp,hop,resolve,invoke,builtin,hm,hx,hrun,Result.andThen];exact hK' _ _ (hK w' r1 r2 r3)
theorem XF (h:QA w b f) (hg:o.guard=none) (m:Operand) (hop:o.op=Op.range t m) (ht:P.underlying t=some (.map kt et)) (hm:a.eval m = .map (some b))
  (hK:∀ w' cnt,J5 w' w.heap.size b f (fun k=>(f k).isSome) cnt->(∀ KS:List (List UInt8),(∀ k,f k≠none->k∈KS)->cnt<=KS.length)->Chg (fun _=>False) w w'->w'.heap.size=w.heap.size+1->wpList P ops Q rest (a.put o.dst (.pointer (some ⟨w.heap.size,0,none⟩))) w'):wpList P ops Q (o::rest) a w:=by
 refine wpList_plain hg fun K' hK' => ?_;obtain ⟨w',hrun,⟨cnt,r1,r4⟩,r2,r3⟩:=h.range ht;unfold Oper.wp;simp [execOp,hop,hm,hrun,Result.andThen];exact hK' _ _ (hK w' cnt r1 r4 r2 r3)
theorem X2 (h:J5 w r b f left cnt) (hg:o.guard=none) (it:Operand) (hop:o.op=Op.next it false) (hit:a.eval it = .pointer (some ⟨r,0,none⟩))
  (hDone:cnt=0->(∀ k,left k=false)->wpList P ops Q rest (a.put o.dst (.tuple #[.bool false])) w)
  (hMore:∀ k v w' cnt',left k=true->f k=some v->J5 w' r b f (fun x=>left x && !decide (x=k)) cnt'->cnt'<cnt->Chg (fun i=>i=r) w w'->w'.heap.size=w.heap.size ->
   (Instr.entry (.pointer (some ⟨r,0,none⟩))).run P w' = .ok (.tuple #[QM k,v]) w'->wpList P ops Q rest (a.put o.dst (.tuple #[.bool true,QM k,v])) w'):wpList P ops Q (o::rest) a w:=by
 refine wpList_plain hg fun K' hK' => ?_;unfold Oper.wp;rcases h.next (P:=P) o.type with ⟨h0,hl,hrun⟩ | ⟨k,v,w',cnt',h1,h2,hrun,h3,h4,h5,h6,h7⟩
 ·simp [execOp,hop,hit,hrun,Result.andThen];exact hK' _ _ (hDone h0 hl)
 ·simp [execOp,hop,hit,hrun,Result.andThen];exact hK' _ _ (hMore k v w' cnt' h1 h2 h3 h4 h5 h6 h7)
end
end
section
open Go.RowKit
def KJ (v:Vl):List UInt8:=Ji 1 (u64 v.k)++if v.k=1 then Ji 8 (u64 v.n) else Ji 2 v.s.length++v.s
def nameOf (key:List Vl):List UInt8:=Ji 1 (u64 key.length)++key.flatMap KJ
theorem DE (v:Vl) (h:v.s.length<=65536):(KJ v).length<=65600:=by
 unfold KJ;rw [List.length_append,ZH];split
 ·rw [ZH]; omega
 ·rw [List.length_append,ZH]; omega
theorem XU:∀ (r:List Vl),(∀ v∈r,v.s.length<=65536)->(r.flatMap KJ).length<=r.length*65600
 | [],_=>by simp
 | v::r,h=>by
  rw [List.flatMap_cons,List.length_append,List.length_cons];have h1:=DE v (h v List.mem_cons_self);have h2:=XU r fun u hu=>h u (List.mem_cons_of_mem _ hu);omega
theorem BZ {V:Nat->Prop} {w:World} {D:Nat} {bs:List UInt8} (hd:XT V w D bs) (hV:∀ k,w.heap.size<=k->V k) (v:Vl) (hs:v.s.length<=65536) (hroom:bs.length+70000<=140737488355328) :
  Calls prog 553 #[.pointer (some ⟨D,0,none⟩),v.val] w (Vn V w D (bs++KJ v)):=by
 obtain ⟨k,n,s⟩:=v;have hDl:=hd.lt;have hd1:XT (fun i=>V i/\i≠w.heap.size) (w.alloc (.cells #[.int .i64 k,.int .i64 n,.string (str s)] 55)) D bs:=(hd.mono (V':=fun i=>V i/\i≠w.heap.size) fun i hi hv=>⟨hv,by omega⟩).alloc _
 have hV1:∀ i,(w.alloc (.cells #[.int .i64 k,.int .i64 n,.string (str s)] 55)).heap.size<=i->V i/\i≠w.heap.size:=fun i hi=>by
  have:w.heap.size+1<=i:=by simpa using hi
  exact ⟨hV i (by omega),by omega⟩
 have hb:=SU hd1 hV1 k (by omega);have hblk:(w.alloc (.cells #[.int .i64 k,.int .i64 n,.string (str s)] 55)).heap[w.heap.size]? = some (.cells #[.int .i64 k,.int .i64 n,.string (str s)] 55 (0,0)):=heap_alloc_new w _;have hcA:Chg V w (w.alloc (.cells #[.int .i64 k,.int .i64 n,.string (str s)] 55)):=(Chg.refl V w).alloc _;have HW:=Hd hV1;have HR:=Hd hroom;have HS:=Hd hs;have sK:=Hd hcA;have sM:=Hd hblk;clear hd hV hd1 hV1 hcA hblk;unfold Vl.val
 go_enter func553,ntmps553
 go_wp2_with fail
 refine hb.mono ?_;rintro _ w1 ⟨rfl,hd2,hc1⟩;have hblk1:=hc1.heap sM.out (fun h=>h.2 rfl);have aU:Chg V w w1:=sK.out.trans hc1 fun i _ h=>h.1;have hsz1:=hc1.size;have hV2:∀ i,w1.heap.size<=i->V i/\i≠w.heap.size:=fun i hi=>HW.out i (by omega);have hroom:=HR.out;have hl1:(bs++Ji 1 (u64 k)).length=bs.length+1:=by rw [List.length_append,ZH]
 obtain ⟨c0,c1,c2⟩:=Z1 hblk1;by_cases hk:k=1
 ·subst hk;have hlong:=DC hd2 hV2 n (by rw [hl1]; omega);have lQ:=Hd aU;clear hd2 hc1 aU hsz1 hV2 hroom hl1 hb
  go_wp2_with fail
  refine hlong.mono ?_;rintro _ w2 ⟨rfl,hd3,hc2⟩
  go_wp2_with fail
  go_end0
  refine ⟨rfl,?_,lQ.out.trans hc2 fun i _ h=>h.1⟩;have:KJ ⟨1,n,s⟩=Ji 1 (u64 1)++Ji 8 (u64 n):=by unfold KJ; rw [if_pos rfl]
  rw [this,<- List.append_assoc];exact hd3.mono fun i _ h=>h.1
 ·have hs:=HS.out;have htext:=DD hd2 hV2 (str s) (by rw [hl1,Mm]; have hs:s.length<=65536:=hs; omega);have lQ:=Hd aU;have HK:=Hd hk;have hkb:(k==1)=false:=by simpa using hk
  clear hd2 hc1 aU hsz1 hV2 hroom hl1 hb hs
  go_wp2_with fail
  refine htext.mono ?_;rintro _ w2 ⟨rfl,hd3,hc2⟩
  go_wp2_with fail
  go_end0
  refine ⟨rfl,?_,lQ.out.trans hc2 fun i _ h=>h.1⟩;have:KJ ⟨k,n,s⟩=Ji 1 (u64 k)++(Ji 2 (str s).size++(str s).data.toList):=by unfold KJ; rw [if_neg HK.out,Mm]; rfl
  rw [this,<- List.append_assoc];exact hd3.mono fun i _ h=>h.1
theorem B3 {V F:Nat->Prop} {w:World} {D:Nat} {rv:Value} {r:List Vl} (hd:XT V w D []) (hV:∀ k,w.heap.size<=k->V k) (hr:Zm F w rv r) (hF:∀ k,F k->k<w.heap.size->¬ V k) (hs:∀ v∈r,v.s.length<=65536) (hrl:r.length<=1000) :
  Calls prog 486 #[.pointer (some ⟨D,0,none⟩),rv] w (Vn V w D (nameOf r)):=by
 have hlen:=SU hd hV (r.length:Int) (by decide);obtain ⟨A,cap,rfl,hn,hcap,hat⟩:=hr;have HA:=Hd hat;have HV:=Hd hV;have HF:=Hd hF;have HS:=Hd hs;have HL:=Hd hrl;clear hat hd hV hF hs
 go_enter func486,ntmps486
 go_wp2_with fail
 refine hlen.mono ?_;rintro _ w1 ⟨rfl,hd1,hc1⟩
 go_wp2_with fail
 clear hlen hrl;have HD1:=Hd hd1;clear hd1
 go_loopw [14] (fun i wr=>∃ I:Nat,I<=r.length/\i = .int .i64 I/\Hid (XT V wr D (Ji 1 (u64 r.length)++(r.take I).flatMap KJ))/\Chg V w wr) (fun i _=>r.length-(intOf i).toNat)
 case atStart=>exact ⟨0,Nat.zero_le _,rfl,Hd (by simpa using HD1.out),hc1⟩
 case round =>
  obtain ⟨I,hI,rfl,HD,hcw⟩:=hrel;by_cases hlt:I<r.length
  ·obtain ⟨b,off,rfl,I5,hbl,hx⟩:=HA.out (by omega);obtain ⟨x,ag⟩:∃ x,r[I]? = some x:=⟨_,List.getElem?_eq_getElem hlt⟩
   obtain ⟨v0,v1,v2,hfit⟩:=hx I x ag;have qj:=HF.out b I5 hbl;have q0:=hcw.cell v0 qj;have q1:=hcw.cell v1 qj;have q2:=hcw.cell v2 qj;have hxs:=HS.out x (List.mem_of_getElem? ag);have HX:=Hd ag;have hsz:=hcw.size;have hL:=HL.out
   have hbn:(Ji 1 (u64 r.length)++(r.take I).flatMap KJ).length+70000<=140737488355328:=by
    rw [List.length_append,ZH];have h1:=XU (r.take I) fun u hu=>HS.out u (List.mem_of_mem_take hu);have h2:(r.take I).length<=r.length:=by rw [List.length_take]; omega
    have h3:(r.take I).length*65600<=1000*65600:=Nat.mul_le_mul_right _ (by omega);omega
   have hV2:∀ k,(wr.alloc (.cells #[.int .i64 x.k,.int .i64 x.n,.string (str x.s)] 55)).heap.size<=k->V k:=fun k hk=>by
    have hk:wr.heap.size+1<=k:=by simpa using hk
    exact HV.out k (by omega)
   have hput:=BZ (HD.out.alloc (.cells #[.int .i64 x.k,.int .i64 x.n,.string (str x.s)] 55)) hV2 x hxs hbn;unfold Vl.val at hput;have aW:=Hd hcw;have aD:=Hd hlt;clear ag hx v0 v1 v2 hxs hbn hV2 HD qj hsz hL
   go_wp2_with fail
   refine hput.mono ?_;rintro _ w2 ⟨rfl,hd2,hc2⟩;have HD2:=Hd hd2;clear hd2 hput
   go_wp2_with fail
   go_roundw
   case rel =>
    refine ⟨I+1,aD.out,by go_num,Hd ?_,(aW.out.alloc _).trans hc2 fun i _ h=>h⟩;have:(r.take (I+1)).flatMap KJ=(r.take I).flatMap KJ++KJ x:=by rw [List.take_add_one,HX.out]; simp
    rw [this,<- List.append_assoc];exact HD2.out
   case measure=>have:=aD.out; simp [intOf]; omega
  ·have hge:¬ ((I:Int)<(r.length:Int)):=by omega
   go_wp2_with fail
   go_end0
   have hd:=HD.out;rw [show I=r.length by omega,List.take_length] at hd;exact ⟨rfl,hd,hcw⟩
theorem B4 {F:Nat->Prop} {w:World} {rv:Value} {r:List Vl} (hr:Zm F w rv r) (hs:∀ v∈r,v.s.length<=65536) (hrl:r.length<=1000) :
  Calls prog 408 #[rv] w fun e w'=>e = .returned (QM (nameOf r))/\Chg (fun _=>False) w w':=by
 have hn:=PG (fun k=>w.heap.size<=k) w (Nat.le_refl _);have hp:=fun w1 (hc:Chg (fun _=>False) w w1) (h:XT (fun k=>w.heap.size<=k) w1 w.heap.size [])=>B3 h (fun k hk=>Nat.le_trans hc.size hk) (((hr.mono (G:=fun b=>b<w.heap.size) fun b _ hl=>hl).Zf hc)) (fun k hk _ h=>by omega) hs hrl
 have hbl:(nameOf r).length<=140737488355328:=by
  unfold nameOf;rw [List.length_append,ZH];have h1:=XU r hs;have h3:r.length*65600<=1000*65600:=Nat.mul_le_mul_right _ hrl;omega
 obtain ⟨A,cap,rfl,_⟩:=hr;have HB:=Hd hbl;clear hbl hs hrl
 go_enter func408,ntmps408
 go_wp2_with fail
 refine hn.mono ?_;rintro _ w1 ⟨rfl,hd1,hc1⟩;have hp1:=hp w1 hc1 hd1;clear hp hn hd1
 go_wp2_with fail
 refine hp1.mono ?_;rintro _ w2 ⟨rfl,hd2,hc2⟩;have hdone:=BY hd2 HB.out;have hcw2:Chg (fun _=>False) w w2:=(hc1.mono (T':=fun k=>w.heap.size<=k) fun _ _ h=>h.elim).trans hc2 (fun i _ h=>h) |>.mono fun i hi h=>by omega
 clear hp1 hd2 hc1 hc2
 go_wp2_with fail
 refine hdone.mono ?_;rintro _ w3 ⟨own,A',cap',rfl,hown,hnew,hc3⟩;have hcs:=hown.cs;have qm:=Hd hcs;have aW:=Hd (hcw2.trans hc3 fun _ _ h=>h);clear hown hnew hc3 hdone hcw2 hcs
 go_wp2_with (refine Lr rfl _ _ _ 5 rfl underlying326 underlying5 underlying9 _ A' _ cap' _ rfl qm.out ?_)
 go_ret
 exact ⟨rfl,aW.out⟩
theorem Zfq {a b:Int} (ha : -9223372036854775808<=a/\a<=9223372036854775807) (hb : -9223372036854775808<=b/\b<=9223372036854775807) (h:u64 a=u64 b):a=b:=by
 unfold u64 at h;omega
theorem Zcu {k a b:Nat} (ha:a<256^k) (hb:b<256^k) (h:Ji k a=Ji k b):a=b:=by
 have h1:=BX k a;have h2:=BX k b;rw [h] at h1;rw [Nat.mod_eq_of_lt ha] at h1;rw [Nat.mod_eq_of_lt hb] at h2;omega
theorem Tw {α : Type} {a b c d:List α} (h:a++b=c++d) (hl:a.length=c.length):a=c/\b=d:=List.append_inj h hl
def VN (v:Vl):Prop:=v.right=true /\ -9223372036854775808<=v.n/\v.n<=9223372036854775807
theorem VN.cases {v:Vl} (h:VN v):(v.k=1/\v.s=[])\/(v.k=2/\v.n=0/\v.s.length<=40):=by
 obtain ⟨h,_⟩:=h;unfold Vl.right at h;split at h
 ·rename_i hk;exact .inl ⟨hk,by simpa using h⟩
 ·split at h
  ·rename_i _ hk;simp at h;exact .inr ⟨hk,h⟩
  ·cases h
theorem I6 {v u:Vl} (hv:VN v) (hu:VN u) {x y:List UInt8} (h:KJ v++x=KJ u++y):v=u/\x=y:=by
 unfold KJ at h;rw [List.append_assoc,List.append_assoc] at h;obtain ⟨h1,h2⟩:=Tw h (by rw [ZH,ZH])
 have hk:v.k=u.k:=by
  rcases hv.cases with ⟨e,_⟩ | ⟨e,_⟩ <;> rcases hu.cases with ⟨e',_⟩ | ⟨e',_⟩ <;> rw [e,e'] at h1 ⊢ <;> revert h1 <;> decide
 obtain ⟨k,n,s⟩:=v;obtain ⟨k',n',s'⟩:=u;simp only at hk h2;subst hk;rcases hv.cases with ⟨e,e2⟩ | ⟨e,e2,e3⟩ <;> rcases hu.cases with ⟨f,f2⟩ | ⟨f,f2,f3⟩ <;> simp only at e e2 f f2
 ·subst e; subst e2; subst f2
  rw [if_pos rfl,if_pos rfl] at h2;obtain ⟨h3,h4⟩:=Tw h2 (by rw [ZH,ZH]);have:=Zfq hv.2 hu.2 (Zcu (k:=8) (by show u64 n<256^8; have:=MA n; omega) (by show u64 n'<256^8; have:=MA n'; omega) h3);simp only at this;subst this;exact ⟨rfl,h4⟩
 ·omega
 ·omega
 ·subst e; subst e2; subst f2
  simp only at e3 f3;rw [if_neg (by decide),if_neg (by decide),List.append_assoc,List.append_assoc] at h2;obtain ⟨h3,h4⟩:=Tw h2 (by rw [ZH,ZH]);have hl:=Zcu (k:=2) (by omega) (by omega) h3;obtain ⟨h5,h6⟩:=Tw h4 hl;subst h5;exact ⟨rfl,h6⟩
theorem DF:∀ {r q:List Vl},r.length=q.length->(∀ v∈r,VN v)->(∀ v∈q,VN v)->r.flatMap KJ=q.flatMap KJ->r=q
 | [],[],_,_,_,_=>rfl
 | [],_::_,h,_,_,_=>by cases h
 | _::_,[],h,_,_,_=>by cases h
 | v::r,u::q,hl,hr,hq,h=>by
  rw [List.flatMap_cons,List.flatMap_cons] at h;obtain ⟨rfl,h2⟩:=I6 (hr v List.mem_cons_self) (hq u List.mem_cons_self) h;rw [DF (by simpa using hl) (fun x hx=>hr x (List.mem_cons_of_mem _ hx)) (fun x hx=>hq x (List.mem_cons_of_mem _ hx)) h2]
theorem MF {r q:List Vl} (hl:r.length=q.length) (hr:∀ v∈r,VN v) (hq:∀ v∈q,VN v) (h:nameOf r=nameOf q):r=q:=by
 unfold nameOf at h;exact DF hl hr hq (Tw h (by rw [ZH,ZH])).2
end
section
open Go.RowKit
theorem GS {a b:Nat} (ha:a<=1125899906842624) (hb:b<=1125899906842624):(FloatKind.f64.format.order (fl a) (fl b)==some .eq)=decide (a=b):=by
 rw [Tv (a:=a) (b:=b) (by omega) (by omega)];simp only [Int.compare_eq_ite_lt];rcases Nat.lt_trichotomy a b with h | h | h
 ·rw [if_pos (by omega)];have:a≠b:=by omega
  simp [this]
 ·rw [if_neg (by omega),if_neg (by omega)];simp [h]
 ·rw [if_neg (by omega),if_pos (by omega)];have:a≠b:=by omega
  simp [this]
theorem DG {P:Program} {a b c d:Nat} (ha:a<=1125899906842624) (hb:b<=1125899906842624) (hc:c<=1125899906842624) (hd:d<=1125899906842624) (t:TypeId) (w:World) :
  (binOp .eql t (.complex .f64 (fl a) (fl b)) (.complex .f64 (fl c) (fl d))).run P w = .ok (.bool (decide (a=c) && decide (b=d))) w:=by
 have h1:=GS ha hc;have h2:=GS hb hd;simp [binOp,Op.complexOp,Op.Complex.cmp,Op.floatCmp,asBool,h1,h2]
theorem Kj {P:Program} {a b c d:Nat} (ha:a<=1125899906842624) (hb:b<=1125899906842624) (hc:c<=1125899906842624) (hd:d<=1125899906842624) (t:TypeId) (w:World) :
  (binOp .neq t (.complex .f64 (fl a) (fl b)) (.complex .f64 (fl c) (fl d))).run P w = .ok (.bool !(decide (a=c) && decide (b=d))) w:=by
 have h1:=GS ha hc;have h2:=GS hb hd;simp [binOp,Op.complexOp,Op.Complex.cmp,Op.floatCmp,asBool,h1,h2]
end
section
open Go
section
variable {P:Program} {ops:Array Oper} {Q:Exit->Act->World->Prop} {md:Region.Mode} {S:World->Prop} {I:List Nat}
def RM (md:Region.Mode) (ops:Array Oper) (I:List Nat) (j:Nat):Bool :=
 match ops[j]? with
 | none=>false
 | some o=>I.all fun k=>o.after.any fun e=>Region.binds md e && e.on==k
theorem DH {i j:Nat} {oj:Oper} (hj:ops[j]? = some oj) (hi:i∈I) (hno:∀ e∈oj.after,Region.binds md e=true->e.on≠i):RM md ops I j=false:=by
 cases h:RM md ops I j with
 | false=>rfl
 | true =>
  unfold RM at h;rw [hj] at h;have h1:=List.all_eq_true.1 h i hi;obtain ⟨e,he,h2⟩:=Array.any_eq_true'.1 h1;simp only [Bool.and_eq_true,beq_iff_eq] at h2;exact absurd h2.2 (hno e he h2.1)
def XV (P:Program) (md:Region.Mode) (ops:Array Oper) (Q:Exit->Act->World->Prop) (S:World->Prop) (I:List Nat):Nat->Array Bool->Act->World->Prop
 | 0,listed,a,w=>Region.ready md ops listed=[]/\Q .normal a w
 | fuel+1,listed,a,w =>
  (Region.ready md ops listed=[]->Q .normal a w) /\
  ∀ i∈Region.ready md ops listed,wpOp P ops Q i (fun a' w'=>(RM md ops I i=false->S w')/\XV P md ops Q S I fuel (listed.setIfInBounds i true) a' w') a w
theorem MG:∀ (fuel:Nat) (listed:Array Bool) (a:Act) (w:World),XV P md ops Q S I fuel listed a w->wpAny P md ops Q fuel listed a w
 | 0,_,_,_,h=>h
 | fuel+1,_,_,_,h=>⟨h.1,fun i hi=>wpOp_mono (fun a' w' h'=>MG fuel _ a' w' h'.2) (h.2 i hi)⟩
theorem GU {i:Nat} {oi:Oper} {v:Value} (iN:i∈I) (hi:ops[i]? = some oi) (hsel:∀ (j:Nat) (o:Oper) cs b,ops[j]? = some o->o.op ≠ .select cs b)
  (hQ:∀ c a w,Q (.panic c) (a.put oi.dst v) w->Q (.panic c) a w) :
  ∀ (fuel:Nat) (listed:Array Bool) (a:Act) (w:World),
   (∀ j oj,ops[j]? = some oj->j≠i->listed.getD j true=false->(∀ e∈oj.after,Region.binds md e=true->e.on≠i)->oi.apart ops oj=true) ->
   i∈Region.ready md ops listed->YieldsIf P ops S oi v a->S w ->
   XV P md ops Q S I fuel (listed.setIfInBounds i true) (a.put oi.dst v) w->XV P md ops Q S I (fuel+1) listed a w:=by
 intro fuel
 induction fuel with
 | zero =>
  intro listed a w _ hr hy hS H;refine ⟨fun h=>(by rw [h] at hr; cases hr),fun j hj => ?_⟩;by_cases hji:j=i
  ·subst hji; exact hy.wpOp hi hS ⟨fun _=>hS,H⟩
  ·have:=ready_mono hj hji;rw [H.1] at this;cases this
 | succ fuel ih =>
  intro listed a w hfree hr hy hS H;refine ⟨fun h=>(by rw [h] at hr; cases hr),fun j hj => ?_⟩;by_cases hji:j=i
  ·subst hji; exact hy.wpOp hi hS ⟨fun _=>hS,H⟩
  ·have h1:=H.2 j (ready_mono hj hji);obtain ⟨hjun,oj,hoj,hall⟩:=mem_ready.1 hj
   have hnot:∀ e∈oj.after,Region.binds md e=true->e.on≠i:=fun e he hb heq=>by
    have h1:=hall e he hb;have h0:=(mem_ready.1 hr).1;rw [heq] at h1;rcases Nat.lt_or_ge i listed.size with h' | h'
    ·simp [h'] at h0 h1; rw [h0] at h1; cases h1
    ·simp [Array.getElem?_eq_none h'] at h1
   have hlast:=DH hoj iN hnot;have h2:=wpOp_putIf hoj (hfree j oj hoj hji hjun hnot) (fun cs b=>hsel i oi cs b hi) (fun cs b=>hsel j oj cs b hoj) hQ hy h1
   have hfree':∀ k ok,ops[k]? = some ok->k≠i->(listed.setIfInBounds j true).getD k true=false ->
     (∀ e∈ok.after,Region.binds md e=true->e.on≠i)->oi.apart ops ok=true:=fun k ok hk hki hun hno=>by
    refine hfree k ok hk hki ?_ hno;by_cases hjk:j=k
    ·subst hjk; exact hjun
    ·rw [getD_set_ne true hjk] at hun; exact hun
   refine wpOp_mono (fun a' w' h3=>⟨fun _=>h3.2.1 hlast,ih (listed.setIfInBounds j true) a' w' hfree' (ready_mono hr (Ne.symm hji)) h3.1 (h3.2.1 hlast) ?_⟩) h2;rw [Array.setIfInBounds_comm _ _ hji];exact h3.2.2
theorem Zj9 {i:Nat} (d:Option Tmp) {oi:Oper} {v:Value} {fuel:Nat} {listed:Array Bool} {a:Act} {w:World} (iN:i∈I) (hi:ops[i]? = some oi) (hd:oi.dst=d)
  (hs:Region.noSelect ops=true) (hf:Region.free md ops listed i=true) (hr:(Region.ready md ops listed).contains i=true)
  (hQ:∀ c a w,Q (.panic c) (a.put d v) w->Q (.panic c) a w) (hy:YieldsIf P ops S oi v a) (hS:S w)
  (h:XV P md ops Q S I fuel (listed.setIfInBounds i true) (a.put d v) w):XV P md ops Q S I (fuel+1) listed a w:=by
 subst hd;exact GU iN hi (Region.noSelect_spec hs) hQ fuel listed a w (Region.free_spec hi hf) (by simpa using hr) hy hS h
theorem SV {listed:Array Bool} {a:Act} {w:World} (hr:Region.ready md ops listed=[]) (h:Q .normal a w):∀ fuel,XV P md ops Q S I fuel listed a w
 | 0=>⟨hr,h⟩
 | _+1=>⟨fun _=>h,by rw [hr]; simp⟩
def ZM (P:Program) (md:Region.Mode) (ops:Array Oper) (Q:Exit->Act->World->Prop) (S:World->Prop) (I:List Nat) (fuel:Nat) (listed:Array Bool) (a:Act) (w:World) (rs:List Nat):Prop :=
 ∀ i∈rs,wpOp P ops Q i (fun a' w'=>(RM md ops I i=false->S w')/\XV P md ops Q S I fuel (listed.setIfInBounds i true) a' w') a w
theorem ZM.nil {fuel:Nat} {listed:Array Bool} {a:Act} {w:World}:ZM P md ops Q S I fuel listed a w []:=fun _ h=>by cases h
theorem ZM.cons {fuel:Nat} {listed:Array Bool} {a:Act} {w:World} {i:Nat} {o:Oper} {rs:List Nat} (ho:ops[i]? = some o)
  (h:∀ K':Act->World->Prop,Shut (∀ a w,S w->(S w->XV P md ops Q S I fuel (listed.setIfInBounds i true) a w)->K' a w)->if Region.wanted o (yielded ops a.tmps)=true then Oper.wp P o a w K' Q else K' (a.put o.dst undef) w)
  (hs:ZM P md ops Q S I fuel listed a w rs):ZM P md ops Q S I fuel listed a w (i::rs):=fun j hj=>by
 rcases List.mem_cons.1 hj with rfl | hj
 ·exact wpOp_step ho (fun K' hK=>h K' (fun a w hS hW=>hK a w ⟨fun _=>hS,hW hS⟩))
 ·exact hs j hj
theorem ZM.ZN {fuel:Nat} {listed:Array Bool} {a:Act} {w:World} {i:Nat} {o:Oper} {rs:List Nat} (ho:ops[i]? = some o) (hl:RM md ops I i=true)
  (h:∀ K':Act->World->Prop,Shut (∀ a w,XV P md ops Q S I fuel (listed.setIfInBounds i true) a w->K' a w)->if Region.wanted o (yielded ops a.tmps)=true then Oper.wp P o a w K' Q else K' (a.put o.dst undef) w)
  (hs:ZM P md ops Q S I fuel listed a w rs):ZM P md ops Q S I fuel listed a w (i::rs):=fun j hj=>by
 rcases List.mem_cons.1 hj with rfl | hj
 ·exact wpOp_step ho (fun K' hK=>h K' (fun a w hW=>hK a w ⟨(fun h0=>absurd (hl.symm.trans h0) (by decide)),hW⟩))
 ·exact hs j hj
theorem J6 {rs:List Nat} {fuel:Nat} {listed:Array Bool} {a:Act} {w:World} (hr:Region.ready md ops listed=rs) (hne:rs≠[])
  (h:ZM P md ops Q S I fuel listed a w rs):XV P md ops Q S I (fuel+1) listed a w:=⟨fun h0=>absurd (hr▸h0) hne,hr▸h⟩
theorem RN (I:List Nat) {id:Nat} {a:Act} {w:World} (hm:P.follows .mixedOrders=true) (hS:S w.drew)
  (h:S w.drew->XV P .any ops Q S I ops.size (Array.replicate ops.size false) a w.drew):(Code.region id ops true).wp P Q a w :=
 wp_region_any hm (MG _ _ _ _ (h hS))
end
end
section
open Go
section
variable {P:Program} {ops:Array Oper} {Q:Exit->Act->World->Prop} {md:Region.Mode} {S:World->Prop} {I:List Nat}
def WJ (md:Region.Mode) (ops:Array Oper) (I:List Nat) (j:Nat):Bool :=
 match ops[j]? with
 | none=>false
 | some o=>I.all fun k=>o.after.any fun e=>Region.binds md e && e.on==k
theorem GV {i j:Nat} {oj:Oper} (hj:ops[j]? = some oj) (hi:i∈I) (hno:∀ e∈oj.after,Region.binds md e=true->e.on≠i):WJ md ops I j=false:=by
 cases h:WJ md ops I j with
 | false=>rfl
 | true =>
  unfold WJ at h;rw [hj] at h;have h1:=List.all_eq_true.1 h i hi;obtain ⟨e,he,h2⟩:=Array.any_eq_true'.1 h1;simp only [Bool.and_eq_true,beq_iff_eq] at h2;exact absurd h2.2 (hno e he h2.1)
def QV (P:Program) (md:Region.Mode) (ops:Array Oper) (Q:Exit->Act->World->Prop) (S:World->Prop) (I:List Nat):Nat->Array Bool->Act->World->Prop
 | 0,listed,a,w=>Region.ready md ops listed=[]/\Q .normal a w
 | fuel+1,listed,a,w =>
  (Region.ready md ops listed=[]->Q .normal a w) /\
  ∀ i∈Region.ready md ops listed,wpOp P ops Q i (fun a' w'=>(WJ md ops I i=false->S w->S w')/\QV P md ops Q S I fuel (listed.setIfInBounds i true) a' w') a w
theorem MH:∀ (fuel:Nat) (listed:Array Bool) (a:Act) (w:World),QV P md ops Q S I fuel listed a w->wpAny P md ops Q fuel listed a w
 | 0,_,_,_,h=>h
 | fuel+1,_,_,_,h=>⟨h.1,fun i hi=>wpOp_mono (fun a' w' h'=>MH fuel _ a' w' h'.2) (h.2 i hi)⟩
theorem Tx {S0:World->Prop} {i:Nat} {oi:Oper} {v:Value} (hI:(i∈I/\S0=S)\/S0=fun _=>True) (hi:ops[i]? = some oi) (hsel:∀ (j:Nat) (o:Oper) cs b,ops[j]? = some o->o.op ≠ .select cs b)
  (hQ:∀ c a w,Q (.panic c) (a.put oi.dst v) w->Q (.panic c) a w) :
  ∀ (fuel:Nat) (listed:Array Bool) (a:Act) (w:World),
   (∀ j oj,ops[j]? = some oj->j≠i->listed.getD j true=false->(∀ e∈oj.after,Region.binds md e=true->e.on≠i)->oi.apart ops oj=true) ->
   i∈Region.ready md ops listed->YieldsIf P ops S0 oi v a->S0 w ->
   QV P md ops Q S I fuel (listed.setIfInBounds i true) (a.put oi.dst v) w->QV P md ops Q S I (fuel+1) listed a w:=by
 intro fuel
 induction fuel with
 | zero =>
  intro listed a w _ hr hy hS H;refine ⟨fun h=>(by rw [h] at hr; cases hr),fun j hj => ?_⟩;by_cases hji:j=i
  ·subst hji; exact hy.wpOp hi hS ⟨fun _ h=>h,H⟩
  ·have:=ready_mono hj hji;rw [H.1] at this;cases this
 | succ fuel ih =>
  intro listed a w hfree hr hy hS H;refine ⟨fun h=>(by rw [h] at hr; cases hr),fun j hj => ?_⟩;by_cases hji:j=i
  ·subst hji; exact hy.wpOp hi hS ⟨fun _ h=>h,H⟩
  ·have h1:=H.2 j (ready_mono hj hji);obtain ⟨hjun,oj,hoj,hall⟩:=mem_ready.1 hj
   have hnot:∀ e∈oj.after,Region.binds md e=true->e.on≠i:=fun e he hb heq=>by
    have h1:=hall e he hb;have h0:=(mem_ready.1 hr).1;rw [heq] at h1;rcases Nat.lt_or_ge i listed.size with h' | h'
    ·simp [h'] at h0 h1; rw [h0] at h1; cases h1
    ·simp [Array.getElem?_eq_none h'] at h1
   have hkeep:∀ w',(WJ md ops I j=false->S w->S w')->S0 w':=fun w' hw=>by
    rcases hI with ⟨iN,rfl⟩ | rfl
    ·exact hw (GV hoj iN hnot) hS
    ·trivial
   have h2:=wpOp_putIf hoj (hfree j oj hoj hji hjun hnot) (fun cs b=>hsel i oi cs b hi) (fun cs b=>hsel j oj cs b hoj) hQ hy h1
   have hfree':∀ k ok,ops[k]? = some ok->k≠i->(listed.setIfInBounds j true).getD k true=false ->
     (∀ e∈ok.after,Region.binds md e=true->e.on≠i)->oi.apart ops ok=true:=fun k ok hk hki hun hno=>by
    refine hfree k ok hk hki ?_ hno;by_cases hjk:j=k
    ·subst hjk; exact hjun
    ·rw [getD_set_ne true hjk] at hun; exact hun
   refine wpOp_mono (fun a' w' h3=>⟨h3.2.1,ih (listed.setIfInBounds j true) a' w' hfree' (ready_mono hr (Ne.symm hji)) h3.1 (hkeep w' h3.2.1) ?_⟩) h2;rw [Array.setIfInBounds_comm _ _ hji];exact h3.2.2
theorem Zcw {i:Nat} (d:Option Tmp) {oi:Oper} {v:Value} {fuel:Nat} {listed:Array Bool} {a:Act} {w:World} (iN:i∈I) (hi:ops[i]? = some oi) (hd:oi.dst=d)
  (hs:Region.noSelect ops=true) (hf:Region.free md ops listed i=true) (hr:(Region.ready md ops listed).contains i=true)
  (hQ:∀ c a w,Q (.panic c) (a.put d v) w->Q (.panic c) a w) (hy:YieldsIf P ops S oi v a) (hS:S w)
  (h:QV P md ops Q S I fuel (listed.setIfInBounds i true) (a.put d v) w):QV P md ops Q S I (fuel+1) listed a w:=by
 subst hd;exact Tx (.inl ⟨iN,rfl⟩) hi (Region.noSelect_spec hs) hQ fuel listed a w (Region.free_spec hi hf) (by simpa using hr) hy hS h
theorem MI {i:Nat} (d:Option Tmp) {oi:Oper} {v:Value} {fuel:Nat} {listed:Array Bool} {a:Act} {w:World} (hi:ops[i]? = some oi) (hd:oi.dst=d)
  (hs:Region.noSelect ops=true) (hf:Region.free md ops listed i=true) (hr:(Region.ready md ops listed).contains i=true)
  (hQ:∀ c a w,Q (.panic c) (a.put d v) w->Q (.panic c) a w) (hy:YieldsIf P ops (fun _=>True) oi v a)
  (h:QV P md ops Q S I fuel (listed.setIfInBounds i true) (a.put d v) w):QV P md ops Q S I (fuel+1) listed a w:=by
 subst hd;exact Tx (.inr rfl) hi (Region.noSelect_spec hs) hQ fuel listed a w (Region.free_spec hi hf) (by simpa using hr) hy trivial h
theorem Zr {listed:Array Bool} {a:Act} {w:World} (hr:Region.ready md ops listed=[]) (h:Q .normal a w):∀ fuel,QV P md ops Q S I fuel listed a w
 | 0=>⟨hr,h⟩
 | _+1=>⟨fun _=>h,by rw [hr]; simp⟩
def Zc (P:Program) (md:Region.Mode) (ops:Array Oper) (Q:Exit->Act->World->Prop) (S:World->Prop) (I:List Nat) (fuel:Nat) (listed:Array Bool) (a:Act) (w:World) (rs:List Nat):Prop :=
 ∀ i∈rs,wpOp P ops Q i (fun a' w'=>(WJ md ops I i=false->S w->S w')/\QV P md ops Q S I fuel (listed.setIfInBounds i true) a' w') a w
theorem Zc.nil {fuel:Nat} {listed:Array Bool} {a:Act} {w:World}:Zc P md ops Q S I fuel listed a w []:=fun _ h=>by cases h
theorem Zc.cons {fuel:Nat} {listed:Array Bool} {a:Act} {w:World} {i:Nat} {o:Oper} {rs:List Nat} (ho:ops[i]? = some o)
  (h:∀ K':Act->World->Prop,Shut (∀ a w',(S w->S w')->QV P md ops Q S I fuel (listed.setIfInBounds i true) a w'->K' a w')->if Region.wanted o (yielded ops a.tmps)=true then Oper.wp P o a w K' Q else K' (a.put o.dst undef) w)
  (hs:Zc P md ops Q S I fuel listed a w rs):Zc P md ops Q S I fuel listed a w (i::rs):=fun j hj=>by
 rcases List.mem_cons.1 hj with rfl | hj
 ·exact wpOp_step ho (fun K' hK=>h K' (fun a w hS hW=>hK a w ⟨fun _=>hS,hW⟩))
 ·exact hs j hj
theorem Zc.ZN {fuel:Nat} {listed:Array Bool} {a:Act} {w:World} {i:Nat} {o:Oper} {rs:List Nat} (ho:ops[i]? = some o) (hl:WJ md ops I i=true)
  (h:∀ K':Act->World->Prop,Shut (∀ a w,QV P md ops Q S I fuel (listed.setIfInBounds i true) a w->K' a w)->if Region.wanted o (yielded ops a.tmps)=true then Oper.wp P o a w K' Q else K' (a.put o.dst undef) w)
  (hs:Zc P md ops Q S I fuel listed a w rs):Zc P md ops Q S I fuel listed a w (i::rs):=fun j hj=>by
 rcases List.mem_cons.1 hj with rfl | hj
 ·exact wpOp_step ho (fun K' hK=>h K' (fun a w hW=>hK a w ⟨(fun h0 _=>absurd (hl.symm.trans h0) (by decide)),hW⟩))
 ·exact hs j hj
theorem Zg {rs:List Nat} {fuel:Nat} {listed:Array Bool} {a:Act} {w:World} (hr:Region.ready md ops listed=rs) (hne:rs≠[])
  (h:Zc P md ops Q S I fuel listed a w rs):QV P md ops Q S I (fuel+1) listed a w:=⟨fun h0=>absurd (hr▸h0) hne,hr▸h⟩
theorem Zh (I:List Nat) {id:Nat} {a:Act} {w:World} (hm:P.follows .mixedOrders=true) (hS:S w.drew)
  (h:S w.drew->QV P .any ops Q S I ops.size (Array.replicate ops.size false) a w.drew):(Code.region id ops true).wp P Q a w :=
 wp_region_any hm (MH _ _ _ _ (h hS))
end
end
section
open Go
section
variable {P:Program} {ops:Array Oper} {Q:Exit->Act->World->Prop} {md:Region.Mode} {S:World->Prop} {I:List Nat} (i:Nat) (d:Option Tmp) {v:Value} {oi:Oper} {fuel:Nat} {listed:Array Bool} {a a':Act} {w:World}
theorem tkH (h:wpAnyH P md ops Q S fuel (listed.setIfInBounds i true) a' w) (hi:ops[i]? = some oi:=by rfl) (hd:oi.dst=d:=by rfl) (hy:YieldsIf P ops S oi v a:=by refine .inl ⟨by rfl,?_⟩; intro wx hSw; go_simp; try (with_reducible rfl)) (ha:a.put d v=a':=by simp only [Act.put,List.setIfInBounds_toArray,List.set_cons_zero,List.set_cons_succ]; rfl)
  (hs:Region.noSelect ops=true:=by kernel_rfl) (hf:Region.free md ops listed i=true:=by kernel_rfl) (hr:(Region.ready md ops listed).contains i=true:=by kernel_rfl)
  (hQ:∀ c a w,Q (.panic c) (a.put d v) w->Q (.panic c) a w:=by exact fun _ _ _ h=>h) (hS:S w:=by assumption):wpAnyH P md ops Q S (fuel+1) listed a w:=by
 subst ha;exact Ey d hi hd hs hf hr hQ hy hS h
theorem tkU (h:wpAnyH P md ops Q S fuel (listed.setIfInBounds i true) a' w) (hi:ops[i]? = some oi:=by rfl) (hd:oi.dst=d:=by rfl) (hy:YieldsIf P ops S oi undef a:=by exact .inr ⟨by rfl,rfl⟩) (ha:a.put d undef=a':=by simp only [Act.put,List.setIfInBounds_toArray,List.set_cons_zero,List.set_cons_succ]; rfl)
  (hs:Region.noSelect ops=true:=by kernel_rfl) (hf:Region.free md ops listed i=true:=by kernel_rfl) (hr:(Region.ready md ops listed).contains i=true:=by kernel_rfl)
  (hQ:∀ c a w,Q (.panic c) (a.put d undef) w->Q (.panic c) a w:=by exact fun _ _ _ h=>h) (hS:S w:=by assumption):wpAnyH P md ops Q S (fuel+1) listed a w:=by
 subst ha;exact Ey d hi hd hs hf hr hQ hy hS h
theorem tkP (h:QV P md ops Q S I fuel (listed.setIfInBounds i true) a' w) (hi:ops[i]? = some oi:=by rfl) (hd:oi.dst=d:=by rfl) (hy:YieldsIf P ops (fun _=>True) oi v a:=by refine .inl ⟨by rfl,?_⟩; intro wx hSw; clear hSw; go_simp; try (with_reducible rfl)) (ha:a.put d v=a':=by simp only [Act.put,List.setIfInBounds_toArray,List.set_cons_zero,List.set_cons_succ]; rfl)
  (hs:Region.noSelect ops=true:=by kernel_rfl) (hf:Region.free md ops listed i=true:=by kernel_rfl) (hr:(Region.ready md ops listed).contains i=true:=by kernel_rfl)
  (hQ:∀ c a w,Q (.panic c) (a.put d v) w->Q (.panic c) a w:=by exact fun _ _ _ h=>h):QV P md ops Q S I (fuel+1) listed a w:=by
 subst ha;exact MI d hi hd hs hf hr hQ hy h
theorem tkV (h:QV P md ops Q S I fuel (listed.setIfInBounds i true) a' w) (hi:ops[i]? = some oi:=by rfl) (hd:oi.dst=d:=by rfl) (hy:YieldsIf P ops (fun _=>True) oi undef a:=by exact .inr ⟨by rfl,rfl⟩) (ha:a.put d undef=a':=by simp only [Act.put,List.setIfInBounds_toArray,List.set_cons_zero,List.set_cons_succ]; rfl)
  (hs:Region.noSelect ops=true:=by kernel_rfl) (hf:Region.free md ops listed i=true:=by kernel_rfl) (hr:(Region.ready md ops listed).contains i=true:=by kernel_rfl)
  (hQ:∀ c a w,Q (.panic c) (a.put d undef) w->Q (.panic c) a w:=by exact fun _ _ _ h=>h):QV P md ops Q S I (fuel+1) listed a w:=by
 subst ha;exact MI d hi hd hs hf hr hQ hy h
theorem tkG (h:QV P md ops Q S I fuel (listed.setIfInBounds i true) a' w) (iN:i∈I:=by decide) (hi:ops[i]? = some oi:=by rfl) (hd:oi.dst=d:=by rfl) (hy:YieldsIf P ops S oi v a:=by refine .inl ⟨by rfl,?_⟩; intro wx hSw; go_simp; try (with_reducible rfl)) (ha:a.put d v=a':=by simp only [Act.put,List.setIfInBounds_toArray,List.set_cons_zero,List.set_cons_succ]; rfl)
  (hs:Region.noSelect ops=true:=by kernel_rfl) (hf:Region.free md ops listed i=true:=by kernel_rfl) (hr:(Region.ready md ops listed).contains i=true:=by kernel_rfl)
  (hQ:∀ c a w,Q (.panic c) (a.put d v) w->Q (.panic c) a w:=by exact fun _ _ _ h=>h) (hS:S w:=by assumption):QV P md ops Q S I (fuel+1) listed a w:=by
 subst ha;exact Zcw d iN hi hd hs hf hr hQ hy hS h
end
end
section
open Go.RowKit
def ZB (p:List Vl×Int):Itm:=⟨p.1,p.2.toNat,(-p.2).toNat⟩
def Zi (l:List (List Vl×Int)):List Itm:=l.map ZB
structure ZR (l:List (List Vl×Int)):Prop where
 row:∀ p∈l,Zj p.1=true
 net:∀ p∈l,p.2≠0 /\ -1125899906842624<=p.2/\p.2<=1125899906842624
 ord:∀ j p q,l[j]? = some p->l[j+1]? = some q->P0 p.1 q.1=true
theorem J7 {F:Nat->Prop} {w:World} {v:Value} {l:List (List Vl×Int)} (h:Zp F w v (Zi l)) (hz:ZR l) :
  Calls prog 172 #[v] w fun e w'=>e = .returned (.bool true)/\Chg (fun _=>False) w w':=by
 obtain ⟨A,cap,rfl,hn,hcap,hat⟩:=h;have hcl:(Zi l).length=l.length:=List.length_map _;rw [hcl] at hn hat ⊢;have HA:=Hd hat;have HZ:=Hd hz;clear hat hcl hz
 go_enter func172,ntmps172
 go_wp2_with fail
 go_loopw [7] (fun i wr=>∃ (I:Nat),I<=l.length/\i = .int .i64 I/\Chg (fun _=>False) w wr) (fun i _=>l.length-(intOf i).toNat)
 case atStart=>exact ⟨0,Nat.zero_le _,rfl,Chg.refl _ _⟩
 case round =>
  obtain ⟨I,hI,rfl,hcw⟩:=hrel;by_cases hlt:I<l.length
  ·obtain ⟨b,off,rfl,_,hb,hx⟩:=HA.out (by omega);obtain ⟨⟨r,n⟩,ag⟩:∃ x,l[I]? = some x:=⟨_,List.getElem?_eq_getElem hlt⟩
   have hm:=List.mem_of_getElem? ag;have hrr:=HZ.out.row _ hm;obtain ⟨hn0,hnl,hnu⟩:=HZ.out.net _ hm;simp only at hrr hn0 hnl hnu;obtain ⟨⟨rv,p0,hrow⟩,p1,_⟩:=hx I (ZB (r,n)) (by rw [Zi,List.getElem?_map,ag]; rfl);simp only [ZB] at hrow p1;have q0:=hcw.cell p0 (fun h=>h);have q1:=hcw.cell p1 (fun h=>h);have hrw:=hrow.Zf hcw
   have hr1:∀ W,Chg (fun _=>False) wr W->Calls prog 282 #[rv] W fun e w'=>e = .returned (.bool true)/\Chg (fun _=>False) W w':=fun W hc=>by
    have:=Jw (hrw.Zf hc)
    rwa [hrr] at this
   have hr2:∀ W,Calls prog 55 #[.complex .f64 (fl n.toNat) (fl (-n).toNat)] W fun e w'=>e = .returned (.bool true)/\Chg (fun _=>False) W w':=fun W=>Jv (by omega) (by omega) W
   have hr3:∀ W,Calls prog 289 #[.complex .f64 (fl n.toNat) (fl (-n).toNat)] W fun e w'=>e = .returned (.complex .f64 (fl n.toNat) (fl (-n).toNat))/\Chg (fun _=>False) W w':=fun W=>by
    have:=GM (a:=n.toNat) (b:=(-n).toNat) (by omega) (by omega) W
    rwa [show ((n.toNat:Int)-((-n).toNat:Int))=n by omega] at this
   have he0:∀ W,(binOp .eql 57 (.complex .f64 (fl n.toNat) (fl (-n).toNat)) (.complex .f64 0 0)).run prog W = .ok (.bool false) W:=fun W=>by
    have:=DG (P:=prog) (a:=n.toNat) (b:=(-n).toNat) (c:=0) (d:=0) (by omega) (by omega) (by omega) (by omega) 57 W;rw [XY] at this;rw [this]
    congr 2
    by_cases e:n.toNat=0
    ·have:(-n).toNat≠0:=by omega
     simp [e,this]
    ·simp [e]
   have he1:∀ W,(binOp .neq 57 (.complex .f64 (fl n.toNat) (fl (-n).toNat)) (.complex .f64 (fl n.toNat) (fl (-n).toNat))).run prog W = .ok (.bool false) W:=fun W=>by
    have:=Kj (P:=prog) (a:=n.toNat) (b:=(-n).toNat) (c:=n.toNat) (d:=(-n).toNat) (by omega) (by omega) (by omega) (by omega) 57 W;rw [this];simp
   obtain ⟨RA,aa,rfl,hr⟩:=hrow;unfold tc at q1 p1;have hst:=ZD;have hbw:=Nat.lt_of_lt_of_le hb hcw.size;have HX:=Hd ag;have I7:=Hd hx;clear ag hx p0 p1 hrr hm hr;by_cases h0:I=0
   ·subst h0;simp only [Nat.zero_mul,Nat.add_zero] at q0 q1
    go_wp2_with fail
    have hWd:Chg (fun _=>False) wr ((wr.alloc (.cells #[.slice RA r.length aa,.complex .f64 (fl n.toNat) (fl (-n).toNat)] 59)).drew):=((Chg.refl _ wr).alloc _).drew;have dZ:((wr.alloc (.cells #[.slice RA r.length aa,.complex .f64 (fl n.toNat) (fl (-n).toNat)] 59)).drew).cell? ⟨wr.heap.size,0,none⟩=some (.slice RA r.length aa):=by go_simp
    have ed:((wr.alloc (.cells #[.slice RA r.length aa,.complex .f64 (fl n.toNat) (fl (-n).toNat)] 59)).drew).cell? ⟨wr.heap.size,1,none⟩=some (.complex .f64 (fl n.toNat) (fl (-n).toNat)):=by go_simp
    refine wp_region_held_drew (S:=fun wx=>wx.cell? ⟨wr.heap.size,0,none⟩=some (.slice RA r.length aa)/\wx.cell? ⟨wr.heap.size,1,none⟩=some (.complex .f64 (fl n.toNat) (fl (-n).toNat))) (by kernel_rfl) ⟨dZ,ed⟩ (fun hHeld => ?_);refine tkH 0 (some 12) ?_;refine tkH 1 (some 13) ?_;refine wpAnyH_ready (rs:=[2]) (by kernel_rfl) (by simp) ?_;refine AllReadyH.cons rfl (fun K hK => ?_) AllReadyH.nil;go_simp;refine (hr1 _ hWd).mono ?_;rintro _ wA ⟨rfl,hA⟩;have sN:=hWd.trans hA fun _ _ h=>h;have fT:=hA.cell dZ (fun h=>h);have fU:=hA.cell ed (fun h=>h)
    go_wp2_with fail
    refine hK.out _ _ ?_ (fun hHeld => ?_)
    ·((refine ⟨?_,?_⟩ <;> assumption))
    clear hK K
    try simp only [Act.put,List.setIfInBounds_toArray,List.set_cons_zero,List.set_cons_succ]
    refine tkH 3 (some 15) ?_;refine tkH 4 (some 16) ?_;refine tkH 5 (some 17) ?_;refine tkH 6 (some 18) ?_;refine wpAnyH_ready (rs:=[7]) (by kernel_rfl) (by simp) ?_;refine AllReadyH.cons rfl (fun K hK => ?_) AllReadyH.nil;go_simp;refine (hr2 _).mono ?_;rintro _ wB ⟨rfl,hB⟩;have sO:=sN.trans hB fun _ _ h=>h;have lS:=hB.cell fT (fun h=>h);have lT:=hB.cell fU (fun h=>h)
    go_wp2_with fail
    refine hK.out _ _ ?_ (fun hHeld => ?_)
    ·((refine ⟨?_,?_⟩ <;> assumption))
    clear hK K
    try simp only [Act.put,List.setIfInBounds_toArray,List.set_cons_zero,List.set_cons_succ]
    refine tkH 8 (some 20) ?_;refine tkH 9 (some 21) ?_;refine tkH 10 (some 22) ?_;refine tkH 11 (some 23) ?_;refine tkH 12 (some 24) ?_;refine tkH 13 (some 25) ?_;refine tkH 14 (some 26) ?_;refine tkH 15 (some 27) ?_;refine tkH 16 (some 28) ?_;refine tkH 17 (some 29) ?_;refine tkH 19 (some 31) ?_;refine tkH 20 (some 32) ?_;refine wpAnyH_ready (rs:=[18]) (by kernel_rfl) (by simp) ?_;refine AllReadyH.cons rfl (fun K hK => ?_) AllReadyH.nil;go_simp;refine (hr3 _).mono ?_;rintro _ wC ⟨rfl,hC⟩;have qo:=sO.trans hC fun _ _ h=>h;have mP:=hC.cell lS (fun h=>h);have mQ:=hC.cell lT (fun h=>h)
    go_wp2_with fail
    refine hK.out _ _ ?_ (fun hHeld => ?_)
    ·((refine ⟨?_,?_⟩ <;> assumption))
    clear hK K
    try simp only [Act.put,List.setIfInBounds_toArray,List.set_cons_zero,List.set_cons_succ]
    refine tkH 21 (some 33) ?_;refine tkH 22 (some 34) ?_;refine tkH 23 (some 35) ?_;refine tkH 24 (some 36) ?_;refine tkH 25 (some 37) ?_;refine tkH 26 (some 38) ?_;refine tkU 27 (some 39) ?_;refine tkU 28 (some 40) ?_;refine tkU 29 (some 41) ?_;refine tkU 30 (some 42) ?_;refine tkU 31 (some 43) ?_;refine tkU 32 (some 44) ?_;refine tkU 33 (some 45) ?_;refine tkU 34 (some 46) ?_;refine tkU 35 (some 47) ?_;refine tkU 36 (some 48) ?_;refine tkH 37 (some 49) ?_;refine tkH 38 (some 50) ?_;refine wpAnyH_done (by kernel_rfl) ?_ _
    go_wp2_with fail
    go_roundw
    case rel=>exact ⟨1,by omega,by go_num,hcw.trans qo fun _ _ h=>h⟩
    case measure=>simp [intOf]; omega
   ·obtain ⟨J,rfl⟩:∃ J,I=J+1:=⟨I-1,by omega⟩
    obtain ⟨⟨r2,n2⟩,sP⟩:∃ x,l[J]? = some x:=⟨_,List.getElem?_eq_getElem (by omega)⟩
    have hless:=HZ.out.ord _ _ _ sP HX.out;simp only at hless;obtain ⟨⟨qp,p2,hrow2⟩,_⟩:=I7.out J (ZB (r2,n2)) (by rw [Zi,List.getElem?_map,sP]; rfl);simp only [ZB] at hrow2;have q2:=hcw.cell p2 (fun h=>h);have hrw2:=hrow2.Zf hcw
    have hr4:∀ W,Chg (fun _=>False) wr W->Calls prog 290 #[qp,.slice RA r.length aa] W fun e w'=>e = .returned (.bool true)/\Chg (fun _=>False) W w':=fun W hc=>by
     have:=Du (hrw2.Zf hc) (hrw.Zf hc)
     rwa [hless] at this
    obtain ⟨I8,eu,rfl,hr2'⟩:=hrow2;clear sP hless p2 hr2';have hW1:IntKind.i64.wrap (J:Int)=(J:Int):=IntWalk.i64_in _ (by omega);have sQ:(J:Int)<(l.length:Int):=by omega
    have I9:J<l.length:=by omega
    go_wp2_with fail
    have hWd:Chg (fun _=>False) wr ((wr.alloc (.cells #[.slice RA r.length aa,.complex .f64 (fl n.toNat) (fl (-n).toNat)] 59)).drew):=((Chg.refl _ wr).alloc _).drew;have dZ:((wr.alloc (.cells #[.slice RA r.length aa,.complex .f64 (fl n.toNat) (fl (-n).toNat)] 59)).drew).cell? ⟨wr.heap.size,0,none⟩=some (.slice RA r.length aa):=by go_simp
    have ed:((wr.alloc (.cells #[.slice RA r.length aa,.complex .f64 (fl n.toNat) (fl (-n).toNat)] 59)).drew).cell? ⟨wr.heap.size,1,none⟩=some (.complex .f64 (fl n.toNat) (fl (-n).toNat)):=by go_simp
    have mR:=hWd.cell q2 (fun h=>h);refine wp_region_held_drew (S:=fun wx=>wx.cell? ⟨wr.heap.size,0,none⟩=some (.slice RA r.length aa)/\wx.cell? ⟨wr.heap.size,1,none⟩=some (.complex .f64 (fl n.toNat) (fl (-n).toNat))/\wx.cell? ⟨b,off+J*2,none⟩=some (.slice I8 r2.length eu)) (by kernel_rfl) ⟨dZ,ed,mR⟩ (fun hHeld => ?_);refine tkH 0 (some 12) ?_;refine tkH 1 (some 13) ?_;refine wpAnyH_ready (rs:=[2]) (by kernel_rfl) (by simp) ?_;refine AllReadyH.cons rfl (fun K hK => ?_) AllReadyH.nil;go_simp;refine (hr1 _ hWd).mono ?_;rintro _ wA ⟨rfl,hA⟩;have sN:=hWd.trans hA fun _ _ h=>h;have fT:=hA.cell dZ (fun h=>h);have fU:=hA.cell ed (fun h=>h);have qw:=hA.cell mR (fun h=>h)
    go_wp2_with fail
    refine hK.out _ _ ?_ (fun hHeld => ?_)
    ·((refine ⟨?_,?_,?_⟩ <;> assumption))
    clear hK K
    try simp only [Act.put,List.setIfInBounds_toArray,List.set_cons_zero,List.set_cons_succ]
    refine tkH 3 (some 15) ?_;refine tkH 4 (some 16) ?_;refine tkH 5 (some 17) ?_;refine tkH 6 (some 18) ?_;refine wpAnyH_ready (rs:=[7]) (by kernel_rfl) (by simp) ?_;refine AllReadyH.cons rfl (fun K hK => ?_) AllReadyH.nil;go_simp;refine (hr2 _).mono ?_;rintro _ wB ⟨rfl,hB⟩;have sO:=sN.trans hB fun _ _ h=>h;have lS:=hB.cell fT (fun h=>h);have lT:=hB.cell fU (fun h=>h);have Oa:=hB.cell qw (fun h=>h)
    go_wp2_with fail
    refine hK.out _ _ ?_ (fun hHeld => ?_)
    ·((refine ⟨?_,?_,?_⟩ <;> assumption))
    clear hK K
    try simp only [Act.put,List.setIfInBounds_toArray,List.set_cons_zero,List.set_cons_succ]
    refine tkH 8 (some 20) ?_;refine tkH 9 (some 21) ?_;refine tkH 10 (some 22) ?_;refine tkH 11 (some 23) ?_;refine tkH 12 (some 24) ?_;refine tkH 13 (some 25) ?_;refine tkH 14 (some 26) ?_;refine tkH 15 (some 27) ?_;refine tkH 16 (some 28) ?_;refine tkH 17 (some 29) ?_;refine tkH 19 (some 31) ?_;refine tkH 20 (some 32) ?_;refine wpAnyH_ready (rs:=[18]) (by kernel_rfl) (by simp) ?_;refine AllReadyH.cons rfl (fun K hK => ?_) AllReadyH.nil;go_simp;refine (hr3 _).mono ?_;rintro _ wC ⟨rfl,hC⟩;have qo:=sO.trans hC fun _ _ h=>h;have mP:=hC.cell lS (fun h=>h);have mQ:=hC.cell lT (fun h=>h);have Ob:=hC.cell Oa (fun h=>h)
    go_wp2_with fail
    refine hK.out _ _ ?_ (fun hHeld => ?_)
    ·((refine ⟨?_,?_,?_⟩ <;> assumption))
    clear hK K
    try simp only [Act.put,List.setIfInBounds_toArray,List.set_cons_zero,List.set_cons_succ]
    refine tkH 21 (some 33) ?_;refine tkH 22 (some 34) ?_;refine tkH 23 (some 35) ?_;refine tkH 24 (some 36) ?_;refine tkH 25 (some 37) ?_;refine tkH 26 (some 38) ?_;refine tkH 27 (some 39) ?_;refine tkH 28 (some 40) ?_;refine tkH 29 (some 41) ?_;refine tkH 30 (some 42) ?_;refine tkH 31 (some 43) ?_;refine tkH 32 (some 44) ?_;refine tkH 33 (some 45) ?_;refine tkH 34 (some 46) ?_;refine wpAnyH_ready (rs:=[35]) (by kernel_rfl) (by simp) ?_;refine AllReadyH.cons rfl (fun K hK => ?_) AllReadyH.nil;go_simp;refine (hr4 _ qo).mono ?_;rintro _ wD ⟨rfl,hD⟩;have Oc:=qo.trans hD fun _ _ h=>h;have yH:=hD.cell mP (fun h=>h);have yI:=hD.cell mQ (fun h=>h);have c2D:=hD.cell Ob (fun h=>h)
    go_wp2_with fail
    refine hK.out _ _ ?_ (fun hHeld => ?_)
    ·((refine ⟨?_,?_,?_⟩ <;> assumption))
    clear hK K
    try simp only [Act.put,List.setIfInBounds_toArray,List.set_cons_zero,List.set_cons_succ]
    refine tkH 36 (some 48) ?_;refine tkH 37 (some 49) ?_;refine tkH 38 (some 50) ?_;refine wpAnyH_done (by kernel_rfl) ?_ _
    go_wp2_with fail
    go_roundw
    case rel=>exact ⟨J+2,by omega,by go_num,hcw.trans Oc fun _ _ h=>h⟩
    case measure=>simp [intOf]; omega
  ·have hge:¬ ((I:Int)<(l.length:Int)):=by omega
   go_wp2_with fail
   go_ret
   exact ⟨rfl,hcw⟩
end
section
open Go.RowKit
def Jj:List (List Vl×Int)->List Vl->Int
 | [],_=>0
 | p::l,r=>if KN p.1 r then p.2 else Jj l r
theorem Zu (l:List (List Vl×Int)):(Zi l).length=l.length:=List.length_map _
theorem MJ {l:List (List Vl×Int)} {j:Nat} {p:List Vl×Int} (h:l[j]? = some p):(Zi l)[j]? = some (ZB p):=by rw [Zi,List.getElem?_map,h]; rfl
theorem Zcx {α : Type} {l:List α} {I:Nat} {x : α} (h:l[I]? = some x):l.drop I=x::l.drop (I+1):=by
 obtain ⟨h1,h2⟩:=List.getElem?_eq_some_iff.1 h;rw [<- h2];exact List.drop_eq_getElem_cons h1
theorem ZaT {F G:Nat->Prop} {w:World} {v u:Value} {l:List (List Vl×Int)} {r:List Vl} (h:Zp F w v (Zi l)) (hz:ZR l) (hu:Zm G w u r) :
  Calls prog 166 #[v,u] w fun e w'=>e = .returned (tn (Jj l r))/\Chg (fun _=>False) w w':=by
 have hr:=J7 h hz;have hS:=fun (v2:Value) (q:List Vl) (hq:Zm F w v2 q) w1 (hc:Chg (fun _=>False) w w1)=>SQ (hq.Zf hc) (hu.Zf hc);obtain ⟨A,cap,rfl,hn,hcap,hat⟩:=h;obtain ⟨UA,Od,rfl,hu1,hu2,_⟩:=hu;rw [Zu] at hn hat hr ⊢;have HA:=Hd hat;have HZ:=Hd hz;clear hat hz
 go_enter func166,ntmps166
 go_wp2_with fail
 refine hr.mono ?_;rintro _ w1 ⟨rfl,hc1⟩
 go_wp2_with fail
 go_loopw [12] (fun i wr=>∃ (I:Nat),I<=l.length/\i = .int .i64 I/\Hid (Jj l r=Jj (l.drop I) r)/\Chg (fun _=>False) w wr) (fun i _=>l.length-(intOf i).toNat)
 case atStart=>exact ⟨0,Nat.zero_le _,rfl,Hd (by simp),hc1⟩
 case round =>
  obtain ⟨I,hI,rfl,HC,hcw⟩:=hrel;by_cases hlt:I<l.length
  ·obtain ⟨b,off,rfl,_,hb,hx⟩:=HA.out (by omega);obtain ⟨⟨q,n⟩,ag⟩:∃ x,l[I]? = some x:=⟨_,List.getElem?_eq_getElem hlt⟩
   obtain ⟨⟨rv,p0,hrow⟩,p1,_⟩:=hx I (ZB (q,n)) (MJ ag);simp only [ZB] at hrow p1;have q0:=hcw.cell p0 (fun h=>h);have q1:=hcw.cell p1 (fun h=>h);have hs:=hS rv q hrow;have HD:=Hd (HC.out.trans (by rw [Zcx ag,Jj]));obtain ⟨RA,aa,rfl,hr'⟩:=hrow;unfold tc at q1 p1;have hst:=ZD;obtain ⟨sb,hsb⟩:∃ b,KN q r=b:=⟨_,rfl⟩
   simp only [hsb] at hs HD;clear ag hx p0 p1 hr' hr hS HC hsb;cases sb
   ·go_wp2_with fail
    refine (hs _ (hcw.trans ((Chg.refl _ wr).alloc _) fun _ _ h=>h)).mono ?_;rintro _ w2 ⟨rfl,hc2⟩
    go_wp2_with fail
    go_roundw
    case rel=>exact ⟨I+1,by omega,by go_num,Hd (by simpa using HD.out),(hcw.trans ((Chg.refl _ wr).alloc _) fun _ _ h=>h).trans hc2 fun _ _ h=>h⟩
    case measure=>simp [intOf]; omega
   ·go_wp2_with fail
    refine (hs _ (hcw.trans ((Chg.refl _ wr).alloc _) fun _ _ h=>h)).mono ?_;rintro _ w2 ⟨rfl,hc2⟩;have hbk:w2.heap[wr.heap.size]? = some (.cells #[.slice RA q.length aa,.complex .f64 (fl n.toNat) (fl (-n).toNat)] 59 (0,0)):=hc2.heap (heap_alloc_new wr _) fun h=>h;obtain ⟨k0,k1,_,_⟩:=QU hbk
    go_wp2_with fail
    go_ret
    exact ⟨by rw [HD.out]; rfl,(hcw.trans ((Chg.refl _ wr).alloc _) fun _ _ h=>h).trans hc2 fun _ _ h=>h⟩
  ·have hge:¬ ((I:Int)<(l.length:Int)):=by omega
   go_wp2_with fail
   go_ret
   refine ⟨?_,hcw⟩;rw [HC.out,show I=l.length by omega,List.drop_length];show _=Ending.returned (tn 0);rw [GN];rfl
theorem MK {F:Nat->Prop} {w:World} {v:Value} {l:List Itm} {g:FuncId} {fs:Array Value} (eg:∀ args W,(callFunc g args).run prog W = .ok (.enter g args) W) (h:Zp F w v l)
  (hg:∀ rv x W,x∈l->Zm F w rv x.row->x.a<=1125899906842624->x.b<=1125899906842624->Chg (fun _=>False) w W->Calls prog g (#[.agg #[rv,tc x.a x.b]]++fs) W fun e w'=>e = .returned (.bool false)/\Chg (fun _=>False) W w') :
  Calls prog 270 #[v,.func (.func g) #[] fs] w fun e w'=>e = .returned (.int .i64 (-1))/\Chg (fun _=>False) w w':=by
 obtain ⟨A,cap,rfl,hn,hcap,hat⟩:=h;have HA:=Hd hat;have HG:=Hd hg;clear hat hg
 go_enter func270,ntmps270
 go_wp2_with fail
 go_loopw [8] (fun i wr=>∃ (I:Nat),I<=l.length/\i = .int .i64 I/\Chg (fun _=>False) w wr) (fun i _=>l.length-(intOf i).toNat)
 case atStart=>exact ⟨0,Nat.zero_le _,rfl,Chg.refl _ _⟩
 case round =>
  obtain ⟨I,hI,rfl,hcw⟩:=hrel;by_cases hlt:I<l.length
  ·obtain ⟨b,off,rfl,_,hb,hx⟩:=HA.out (by omega);obtain ⟨x,ag⟩:∃ x,l[I]? = some x:=⟨_,List.getElem?_eq_getElem hlt⟩
   obtain ⟨⟨rv,p0,hrow⟩,p1,ha,hbb,_⟩:=hx I x ag;have q0:=hcw.cell p0 (fun h=>h);have q1:=hcw.cell p1 (fun h=>h);have hs:=HG.out rv x wr (List.mem_of_getElem? ag) hrow ha hbb hcw;obtain ⟨RA,aa,rfl,hr'⟩:=hrow;unfold tc at q1 p1 hs;clear ag hx p0 p1 hr' ha hbb
   go_wp2_with fail
   refine hs.mono ?_;rintro _ w1 ⟨rfl,hc⟩
   go_wp2_with fail
   go_roundw
   case rel=>exact ⟨I+1,by omega,by go_num,hcw.trans hc fun _ _ h=>h⟩
   case measure=>simp [intOf]; omega
  ·have hge:¬ ((I:Int)<(l.length:Int)):=by omega
   go_wp2_with fail
   go_ret
   exact ⟨rfl,hcw⟩
theorem KZ {F:Nat->Prop} {w:World} {v:Value} {l:List Itm} {g:FuncId} {fs:Array Value} (eg:∀ args W,(callFunc g args).run prog W = .ok (.enter g args) W) (h:Zp F w v l)
  (hg:∀ rv x W,x∈l->Zm F w rv x.row->x.a<=1125899906842624->x.b<=1125899906842624->Chg (fun _=>False) w W->Calls prog g (#[.agg #[rv,tc x.a x.b]]++fs) W fun e w'=>e = .returned (.bool false)/\Chg (fun _=>False) W w') :
  Calls prog 162 #[v,.func (.func g) #[] fs] w fun e w'=>e = .returned (.bool false)/\Chg (fun _=>False) w w':=by
 have h1:=MK eg h hg
 go_enter func162,ntmps162
 go_wp2_with fail
 refine h1.mono ?_;rintro _ w1 ⟨rfl,hc⟩
 go_wp2_with fail
 go_ret
 exact ⟨rfl,hc⟩
theorem Oe {F:Nat->Prop} {w:World} {rv:Value} {r:List Vl} {a b:Nat} (hr:Zm F w rv r) (ha:a<=1125899906842624) (hb:b<=1125899906842624) (hab:b<=a) :
  Calls prog 269 #[.agg #[rv,tc a b]] w fun e w'=>e = .returned (.bool false)/\Chg (fun _=>False) w w':=by
 have h1:=fun w=>QT ha hb w;obtain ⟨RA,aa,rfl,_⟩:=hr;have hd:¬ ((a:Int)-(b:Int)<0):=by omega
 unfold tc at h1 ⊢
 go_enter func269,ntmps269
 go_wp2_with fail
 refine (h1 _).mono ?_;rintro _ w1 ⟨rfl,hc⟩
 go_wp2_with fail
 go_ret
 exact ⟨by simp; exact hab,((Chg.refl _ w).alloc _).trans hc fun _ _ h=>h⟩
theorem Ty {F:Nat->Prop} {w:World} {v:Value} {l:List (List Vl×Int)} (h:Zp F w v (Zi l)) (hz:ZR l) (hp:∀ p∈l,0<=p.2) :
  Calls prog 161 #[v] w fun e w'=>e = .returned (.bool true)/\Chg (fun _=>False) w w':=by
 have h1:=J7 h hz
 have h2:=fun w1 (hc:Chg (fun _=>False) w w1)=>KZ (g:=269) (fs := #[]) (enters_of func269 (by kernel_rfl) rfl) (h.Zf hc) fun rv x W hx hrow ha hb hcW=>by
  obtain ⟨p,hpm,rfl⟩:=List.mem_map.1 hx;have:=hp p hpm;exact Oe (hrow.Zf hcW) ha hb (by simp only [ZB]; omega)
 obtain ⟨A,cap,rfl,_⟩:=h
 go_enter func161,ntmps161
 go_wp2_with fail
 refine h1.mono ?_;rintro _ w1 ⟨rfl,hc⟩
 go_wp2_with fail
 refine (h2 _ hc).mono ?_;rintro _ w2 ⟨rfl,hc2⟩
 go_wp2_with fail
 go_ret
 exact ⟨rfl,hc.trans hc2 fun _ _ h=>h⟩
end
section
theorem L0:∀ a:List UInt8,Op.bytesLess a a=false
 | []=>rfl
 | a::x=>by simp [Op.bytesLess,L0 x]
theorem yJ:∀ a b:List UInt8,Op.bytesLess a b=false->Op.bytesLess b a=false->a=b
 | [],[],_,_=>rfl
 | [],_::_,h,_=>by cases h
 | _::_,[],_,h=>by cases h
 | a::x,b::y,h,k=>by
  simp only [Op.bytesLess,Bool.or_eq_false_iff,decide_eq_false_iff_not,Bool.and_eq_false_iff,beq_eq_false_iff_ne] at h k
  have e:a=b:=by
   have h1:¬ a.toNat<b.toNat:=fun e=>h.1 (UInt8.lt_iff_toNat_lt.2 e);have h2:¬ b.toNat<a.toNat:=fun e=>k.1 (UInt8.lt_iff_toNat_lt.2 e);exact UInt8.toNat_inj.1 (by omega)
  subst e;rw [yJ x y (h.2.resolve_left (fun n=>n rfl)) (k.2.resolve_left (fun n=>n rfl))]
theorem DJ:∀ a b c:List UInt8,Op.bytesLess a b=true->Op.bytesLess b c=true->Op.bytesLess a c=true
 | [],[],_,h,_=>by cases h
 | _::_,[],_,h,_=>by cases h
 | [],_::_,[],_,k=>by cases k
 | _::_,_::_,[],_,k=>by cases k
 | [],_::_,_::_,_,_=>rfl
 | a::x,b::y,c::z,h,k=>by
  simp only [Op.bytesLess,Bool.or_eq_true,decide_eq_true_eq,Bool.and_eq_true,beq_iff_eq] at h k ⊢;rcases h with h | ⟨rfl,h⟩
  ·rcases k with k | ⟨rfl,k⟩
   ·exact .inl (UInt8.lt_trans h k)
   ·exact .inl h
  ·rcases k with k | ⟨rfl,k⟩
   ·exact .inl k
   ·exact .inr ⟨rfl,DJ x y z h k⟩
theorem Xy {a b:Vl} (ha:a.right=true) (hb:b.right=true):a.less b=if a.k=b.k then (if a.k=1 then decide (a.n<b.n) else Op.bytesLess a.s b.s) else decide (a.k=1):=by
 unfold Vl.less;rw [ha,hb];rfl
theorem Kk {a:Vl} (h:a.right=true):(a.k=1/\a.s=[])\/(a.k=2/\a.n=0):=by
 unfold Vl.right at h;split at h
 ·rename_i h1; exact .inl ⟨h1,by simpa using h⟩
 ·split at h
  ·rename_i h2;simp at h;exact .inr ⟨h2,h.1⟩
  ·cases h
theorem yK {a b:Vl} (h1:a.k=b.k) (h2:a.n=b.n) (h3:a.s=b.s):a=b:=by cases a; cases b; simp_all
theorem Tz {a:Vl} (ha:a.right=true):a.less a=false:=by
 rw [Xy ha ha,if_pos rfl];split
 ·simp
 ·exact L0 _
theorem Og {a b:Vl} (ha:a.right=true) (hb:b.right=true) (h:a.less b=false) (k:b.less a=false):a=b:=by
 rw [Xy ha hb] at h;rw [Xy hb ha] at k;rcases Kk ha with ⟨a1,a2⟩ | ⟨a1,a2⟩ <;> rcases Kk hb with ⟨b1,b2⟩ | ⟨b1,b2⟩
 ·rw [if_pos (by omega),if_pos a1] at h;rw [if_pos (by omega),if_pos b1] at k;simp at h k;exact yK (by omega) (by omega) (by rw [a2,b2])
 ·rw [if_neg (by omega)] at h; simp [a1] at h
 ·rw [if_neg (by omega)] at k; simp [b1] at k
 ·rw [if_pos (by omega),if_neg (by omega)] at h;rw [if_pos (by omega),if_neg (by omega)] at k;exact yK (by omega) (by omega) (yJ _ _ h k)
theorem SW {a b c:Vl} (ha:a.right=true) (hb:b.right=true) (hc:c.right=true) (h:a.less b=true) (k:b.less c=true):a.less c=true:=by
 rw [Xy ha hb] at h;rw [Xy hb hc] at k;rw [Xy ha hc];rcases Kk ha with ⟨a1,a2⟩ | ⟨a1,a2⟩ <;> rcases Kk hb with ⟨b1,b2⟩ | ⟨b1,b2⟩ <;> rcases Kk hc with ⟨c1,c2⟩ | ⟨c1,c2⟩
 all_goals simp only [a1,b1,c1] at h k ⊢
 all_goals simp at h k ⊢
 ·omega
 ·exact DJ _ _ _ h k
theorem JU {a b:Vl} (ha:a.right=true) (hb:b.right=true):Vb a b=0↔a=b:=by
 unfold Vb;constructor
 ·intro h;split at h
  ·cases h
  ·split at h
   ·cases h
   ·rename_i h1 h2;exact Og ha hb (by simpa using h1) (by simpa using h2)
 ·rintro rfl;rw [Tz ha];rfl
theorem Vo {a b:Vl}:Vb a b<0↔a.less b=true:=by
 unfold Vb;split
 ·simp [*]
 ·rename_i h;split
  ·simp [h]
  ·simp [h]
theorem DK {a b:Vl} (ha:a.right=true) (hb:b.right=true) (h:a.less b=true):b.less a=false:=by
 cases e:b.less a
 ·rfl
 ·have:=SW ha hb ha h e;rw [Tz ha] at this;cases this
theorem Zcz {a b:Vl} (ha:a.right=true) (hb:b.right=true):0<Vb a b↔b.less a=true:=by
 unfold Vb;split
 ·rename_i h;rw [DK ha hb h];simp
 ·split
  ·simp [*]
  ·rename_i h2;simp [h2]
def RV (r:List Vl):Prop:=∀ x∈r,x.right=true
theorem RV.tail {a:Vl} {r:List Vl} (h:RV (a::r)):RV r:=fun x hx=>h x (List.mem_cons_of_mem _ hx)
theorem RV.head {a:Vl} {r:List Vl} (h:RV (a::r)):a.right=true:=h a (by simp)
theorem ZZ {r:List Vl} (h:Zj r=true):RV r:=by
 unfold Zj at h;simp at h;exact fun x hx=>h.2 x hx
theorem QW:∀ {r q:List Vl},RV r->RV q->(Qv r q=0↔r=q)
 | [],[],_,_=>by simp [Qv]
 | [],_::_,_,_=>by simp [Qv]
 | _::_,[],_,_=>by simp [Qv]
 | a::r,b::q,h,k=>by
  rw [Qv];split
  ·rename_i e;rw [QW h.tail k.tail,(JU h.head k.head).1 e];simp
  ·rename_i e;constructor
   ·intro x; exact absurd x e
   ·intro x;injection x with x1 x2
    exact absurd ((JU h.head k.head).2 x1) e
theorem RO:∀ {r q:List Vl},RV r->RV q->(Qv r q<0↔0<Qv q r)
 | [],[],_,_=>by simp [Qv]
 | [],_::_,_,_=>by simp [Qv]
 | _::_,[],_,_=>by simp [Qv]
 | a::r,b::q,h,k=>by
  rw [Qv,Qv];by_cases e:Vb a b=0
  ·have e2:Vb b a=0:=(JU k.head h.head).2 ((JU h.head k.head).1 e).symm;rw [if_pos e,if_pos e2];exact RO h.tail k.tail
  ·have e2:¬ Vb b a=0:=fun x=>e ((JU h.head k.head).2 ((JU k.head h.head).1 x).symm);rw [if_neg e,if_neg e2,Vo,Zcz k.head h.head]
theorem Kl:∀ {r q p:List Vl},RV r->RV q->RV p->Qv r q<0->Qv q p<0->Qv r p<0
 | [],[],_,_,_,_,h,_=>by simp [Qv] at h
 | [],_::_,[],_,_,_,_,k=>by simp [Qv] at k
 | [],_::_,_::_,_,_,_,_,_=>by simp [Qv]
 | _::_,[],_,_,_,_,h,_=>by simp [Qv] at h
 | _::_,_::_,[],_,_,_,_,k=>by simp [Qv] at k
 | a::r,b::q,c::p,hr,hq,hp,h,k=>by
  rw [Qv] at h k ⊢;by_cases e:Vb a b=0
  ·have e':=(JU hr.head hq.head).1 e;subst e';rw [if_pos e] at h;by_cases e2:Vb a c=0
   ·rw [if_pos e2] at k ⊢;exact Kl hr.tail hq.tail hp.tail h k
   ·rw [if_neg e2] at k ⊢;exact k
  ·rw [if_neg e] at h;by_cases e2:Vb b c=0
   ·have e':=(JU hq.head hp.head).1 e2;subst e';rw [if_neg e];exact h
   ·rw [if_neg e2] at k;have h1:=Vo.1 h;have h2:=Vo.1 k;have h3:=SW hr.head hq.head hp.head h1 h2;have h4:=Vo.2 h3;rw [if_neg (by omega)];exact h4
def rle (r q:List Vl):Prop:=Qv r q<=0
theorem ML {r:List Vl} (h:RV r):rle r r:=by unfold rle; rw [(QW h h).2 rfl]; exact Int.le_refl _
theorem Oh {r q:List Vl} (h:RV r) (k:RV q):rle r q\/rle q r:=by
 unfold rle;by_cases e:Qv r q<=0
 ·exact .inl e
 ·have:=(RO k h).2 (by omega);exact .inr (by omega)
theorem ZaX {r q p:List Vl} (h:RV r) (k:RV q) (m:RV p) (h1:rle r q) (h2:rle q p):rle r p:=by
 unfold rle at h1 h2 ⊢;by_cases e:Qv r q=0
 ·rw [(QW h k).1 e]; exact h2
 ·by_cases e2:Qv q p=0
  ·rw [<- (QW k m).1 e2]; exact h1
  ·have:=Kl h k m (by omega) (by omega);omega
end
section
open Go.RowKit
def Arr (w:World) (g:Nat) (ps:List PI):Prop :=
 (∃ cur,w.heap[g]? = some (.cells cur 59 (0,0))/\cur.toList.take (ps.length*2)=ZG ps)/\∀ p∈ps,p.1.oneCell'=true
theorem Arr.chg {T:Nat->Prop} {w w':World} {g:Nat} {ps:List PI} (h:Arr w g ps) (hc:Chg T w w') (hn:¬ T g):Arr w' g ps:=by
 obtain ⟨⟨cur,h1,h2⟩,h3⟩:=h;exact ⟨⟨cur,hc.heap h1 hn,h2⟩,h3⟩
theorem Arr.Zf {w w':World} {g:Nat} {ps:List PI} (h:Arr w g ps) (hc:Chg (fun _=>False) w w'):Arr w' g ps:=h.chg hc fun h=>h
theorem Arr.lt {w:World} {g:Nat} {ps:List PI} (h:Arr w g ps):g<w.heap.size:=by
 obtain ⟨⟨cur,h1,_⟩,_⟩:=h;exact lt_of_block h1
theorem Arr.one {w:World} {g:Nat} {ps:List PI} (h:Arr w g ps) {j:Nat} {p:PI} (hp:ps[j]? = some p):∀ a m W,(store a p.1 m).run prog W=stored prog W a p.1 m :=
 fun a m W=>run_store prog W a _ m (h.2 p (List.mem_of_getElem? hp))
theorem Arr.cells {w:World} {g:Nat} {ps:List PI} (h:Arr w g ps) {j:Nat} {p:PI} (hp:ps[j]? = some p) :
  w.cell? ⟨g,j*2,none⟩=some p.1/\w.cell? ⟨g,j*2+1,none⟩=some (.complex .f64 (fl p.2.a) (fl p.2.b))/\w.frozen? ⟨g,j*2,none⟩=false/\w.frozen? ⟨g,j*2+1,none⟩=false:=by
 obtain ⟨⟨cur,h1,h2⟩,_⟩:=h;obtain ⟨g0,g1⟩:=Y4 hp;have hj:=(List.getElem?_eq_some_iff.1 hp).1;rw [<- h2] at g0 g1;rw [List.getElem?_take,if_pos (by omega)] at g0 g1;refine ⟨?_,?_,frozen_of_row w g _ cur _ h1,frozen_of_row w g _ cur _ h1⟩
 ·rw [cell_of_row w g _ cur _ (0,0) h1]; simpa using g0
 ·rw [cell_of_row w g _ cur _ (0,0) h1]; simpa [tc] using g1
theorem DL {α : Type} (f : α -> List Value) (x y : α -> Value) (hf:∀ a,f a=[x a,y a]):∀ (l:List α) (j:Nat) (a : α),((l.flatMap f).set (j*2) (x a)).set (j*2+1) (y a)=(l.set j a).flatMap f
 | [],j,a=>by simp
 | b::l,0,a=>by simp [List.flatMap_cons,hf]
 | b::l,j+1,a=>by
  rw [List.flatMap_cons,List.set_cons_succ,List.flatMap_cons,hf b,<- DL f x y hf l j a];rw [show (j+1)*2=j*2+1+1 by omega,show j*2+1+1+1=j*2+1+1+1 from rfl];simp [List.set_cons_succ]
theorem Arr.set {w:World} {g:Nat} {ps:List PI} (h:Arr w g ps) (j:Nat) (p:PI) (hp:p.1.oneCell'=true) :
  Arr ((w.setCell ⟨g,j*2,none⟩ p.1).setCell ⟨g,j*2+1,none⟩ (.complex .f64 (fl p.2.a) (fl p.2.b))) g (ps.set j p):=by
 obtain ⟨⟨cur,h1,h2⟩,h0⟩:=h;have h3:=heap_setCell_same w g (j*2) cur 59 p.1 h1;have h4:=heap_setCell_same _ g (j*2+1) _ 59 (.complex .f64 (fl p.2.a) (fl p.2.b)) h3;refine ⟨⟨_,h4,?_⟩,fun q hq => ?_⟩;rotate_left
 ·rcases List.mem_or_eq_of_mem_set hq with hq | rfl
  ·exact h0 q hq
  ·exact hp
 rw [Array.toList_setIfInBounds,Array.toList_setIfInBounds,List.length_set,List.take_set,List.take_set,h2];exact DL (fun p:PI=>[p.1,tc p.2.a p.2.b]) (fun p=>p.1) (fun p=>tc p.2.a p.2.b) (fun _=>rfl) ps j p
def Zg6 (w:World) (g i j:Nat) (p q:PI):World :=
 (((w.setCell ⟨g,i*2,none⟩ q.1).setCell ⟨g,i*2+1,none⟩ (.complex .f64 (fl q.2.a) (fl q.2.b))).setCell ⟨g,j*2,none⟩ p.1).setCell ⟨g,j*2+1,none⟩ (.complex .f64 (fl p.2.a) (fl p.2.b))
theorem Arr.swap {w:World} {g:Nat} {ps:List PI} (h:Arr w g ps) {i j:Nat} {p q:PI} (hp:ps[i]? = some p) (hq:ps[j]? = some q):Arr (Zg6 w g i j p q) g ((ps.set i q).set j p):=(h.set i q (h.2 q (List.mem_of_getElem? hq))).set j p (h.2 p (List.mem_of_getElem? hp))
theorem Ye (w:World) (g i j:Nat) (p q:PI):Chg (fun b=>b=g) w (Zg6 w g i j p q) :=
 Chg.Qb (T:=fun b=>b=g) (Chg.Qb (T:=fun b=>b=g) (Chg.Qb (T:=fun b=>b=g) (Chg.Qb (T:=fun b=>b=g) (Chg.refl _ w) (D:=g) rfl _ _) (D:=g) rfl _ _) (D:=g) rfl _ _) (D:=g) rfl _ _
def Xu (p q:PI):Int:=Qv p.2.row q.2.row
theorem Jk {F:Nat->Prop} {w:World} {p q:PI} (hp:POk F w p) (hq:POk F w q) :
  Calls prog 285 #[.agg #[p.1,.complex .f64 (fl p.2.a) (fl p.2.b)],.agg #[q.1,.complex .f64 (fl q.2.a) (fl q.2.b)]] w fun e w'=>e = .returned (.int .i64 (Xu p q))/\Chg (fun _=>False) w w':=by
 have h1:=fun w1 (hc:Chg (fun _=>False) w w1)=>Y3 (hp.1.Zf hc) (hq.1.Zf hc);obtain ⟨rv,x⟩:=p;obtain ⟨qp,y⟩:=q;obtain ⟨⟨A,c,e1,_⟩,_⟩:=hp;obtain ⟨⟨A2,c2,e2,_⟩,_⟩:=hq;simp only at e1 e2;subst e1;subst e2;unfold Xu;simp only at h1 ⊢
 go_enter func285,ntmps285
 go_wp2_with fail
 refine (h1 _ (((Chg.refl _ w).alloc _).alloc _)).mono ?_;rintro _ w1 ⟨rfl,hc⟩
 go_wp2_with fail
 go_ret
 exact ⟨rfl,(((Chg.refl _ w).alloc _).alloc _).trans hc fun _ _ h=>h⟩
end
section
open Go.RowKit
def sw (ps:List PI) (i j:Nat):List PI:=match ps[i]?,ps[j]? with
 | some p,some q=>(ps.set i q).set j p
 | _,_=>ps
theorem RP (ps:List PI) (i j:Nat):(sw ps i j).length=ps.length:=by
 unfold sw;split
 ·simp
 ·rfl
def Jl (ps:List PI) (a b:Nat):Nat->List PI
 | 0=>ps
 | k+1=>sw (Jl ps a b k) (a+k) (b+k)
theorem QB (ps:List PI) (a b:Nat):∀ k,(Jl ps a b k).length=ps.length
 | 0=>rfl
 | k+1=>by rw [Jl,RP,QB ps a b k]
theorem XW {w:World} {g N cap C B n:Nat} {ps:List PI} {f:Value} (h:Arr w g ps) (hN:ps.length=N) (hcap:N<=cap) (h1:C+n<=B) (h2:B+n<=N) (hm:N<=4611686018427387903) :
  Calls prog 590 #[.slice (some ⟨g,0,none⟩) N cap,.int .i64 (C:Int),.int .i64 (B:Int),.int .i64 (n:Int),f] w fun e w'=>e = .returned (.tuple #[])/\Arr w' g (Jl ps C B n)/\Chg (fun b=>b=g) w w':=by
 have H:=Hd h;have HN:=Hd hN;clear h hN;have hst:=ZD
 go_enter func590,ntmps590
 go_wp2_with fail
 go_loopw [10] (fun i wr=>∃ (J:Nat),J<=n/\i = .int .i64 J/\Hid (Arr wr g (Jl ps C B J))/\Chg (fun b=>b=g) w wr) (fun i _=>n-(intOf i).toNat)
 case atStart=>exact ⟨0,Nat.zero_le _,rfl,H,Chg.refl _ _⟩
 case round =>
  obtain ⟨J,hJ,rfl,HR,hcw⟩:=hrel;by_cases hlt:J<n
  ·obtain ⟨⟨pv,px⟩,hp⟩:∃ p,(Jl ps C B J)[C+J]? = some p:=⟨_,List.getElem?_eq_getElem (by rw [QB,HN.out]; omega)⟩
   obtain ⟨⟨qv,qx⟩,hq⟩:∃ p,(Jl ps C B J)[B+J]? = some p:=⟨_,List.getElem?_eq_getElem (by rw [QB,HN.out]; omega)⟩
   have ha:Arr wr.drew g (Jl ps C B J):=HR.out.Zf ((Chg.refl _ wr).drew);obtain ⟨d2,d3,e2,e3⟩:=ha.cells hp;obtain ⟨d0,d1,e0,e1⟩:=ha.cells hq;obtain ⟨x2,x3,y2,y3⟩:=HR.out.cells hp;obtain ⟨x0,x1,y0,y1⟩:=HR.out.cells hq;have s1:=ha.one hp;have s2:=ha.one hq;have HW:=Hd (ha.swap hp hq);have dK:=Hd (show Jl ps C B (J+1)=(((Jl ps C B J).set (C+J) (qv,qx)).set (B+J) (pv,px)) by rw [Jl,sw,hp,hq]);have HA:=Hd ha;clear ha hp hq;simp only at s1 s2 d0 d1 d2 d3 e0 e1 e2 e3 x0 x1 x2 x3 y0 y1 y2 y3;obtain ⟨bi,hbi⟩:∃ m,B+J=m:=⟨_,rfl⟩
   obtain ⟨ci,hci⟩:∃ m,C+J=m:=⟨_,rfl⟩
   rw [hbi] at d0 d1 e0 e1 x0 x1 y0 y1 dK;rw [hci] at d2 d3 e2 e3 x2 x3 y2 y3 dK;rw [hbi,hci] at HW;have w1:IntKind.i64.wrap ((B:Int)+(J:Int))=(bi:Int):=by rw [show (B:Int)+(J:Int)=(bi:Int) by omega]; exact IntWalk.i64_in _ (by omega)
   have w2:IntKind.i64.wrap ((C:Int)+(J:Int))=(ci:Int):=by rw [show (C:Int)+(J:Int)=(ci:Int) by omega]; exact IntWalk.i64_in _ (by omega)
   have m1:¬ bi=ci:=by omega
   have m2:¬ ci=bi:=by omega
   have m3:¬ bi*2=ci*2+1:=by omega
   have m4:¬ ci*2+1=bi*2:=by omega
   have m5:¬ bi*2+1=ci*2:=by omega
   have m6:¬ ci*2=bi*2+1:=by omega
   have l1:bi<N:=by omega
   have l2:ci<N:=by omega
   have l3:C+J=ci:=hci;clear hbi hci l3
   go_wp2_with fail
   refine Zh [13,19] (S:=fun wx=>wx.cell? ⟨g,bi*2,none⟩=some qv/\wx.cell? ⟨g,bi*2+1,none⟩=some (.complex .f64 (fl qx.a) (fl qx.b))/\wx.cell? ⟨g,ci*2,none⟩=some pv/\wx.cell? ⟨g,ci*2+1,none⟩=some (.complex .f64 (fl px.a) (fl px.b))) (by kernel_rfl) ⟨d0,d1,d2,d3⟩ (fun hHeld => ?_);refine tkP 0 (some 16) ?_;refine tkP 1 (some 17) ?_;refine tkP 2 (some 18) ?_;refine tkP 3 (some 19) ?_;refine tkP 4 (some 20) ?_;refine tkP 5 (some 21) ?_;refine tkP 6 (some 22) ?_;refine tkP 7 (some 23) ?_;refine tkP 8 (some 24) ?_;refine tkP 9 (some 25) ?_;refine tkP 10 (some 26) ?_;refine tkP 11 (some 27) ?_;refine tkP 12 (some 28) ?_;refine tkG 13 (some 29) ?_;refine tkP 14 (some 30) ?_;refine tkP 15 (some 31) ?_;refine tkP 16 (some 32) ?_;refine tkP 17 (some 33) ?_;refine tkP 18 (some 34) ?_;refine tkG 19 (some 35) ?_;refine tkP 20 (some 36) ?_;refine Zg (rs:=[21]) (by kernel_rfl) (by simp) ?_;refine Zc.ZN rfl (by kernel_rfl) (fun K hK => ?_) Zc.nil;go_simp;refine hK.out _ _ ?_;clear hK K
   try simp only [Act.put,List.setIfInBounds_toArray,List.set_cons_zero,List.set_cons_succ]
   refine tkP 22 (some 37) ?_;refine Zg (rs:=[23]) (by kernel_rfl) (by simp) ?_;refine Zc.ZN rfl (by kernel_rfl) (fun K hK => ?_) Zc.nil;go_simp;refine hK.out _ _ ?_;clear hK K
   try simp only [Act.put,List.setIfInBounds_toArray,List.set_cons_zero,List.set_cons_succ]
   refine Zr (by kernel_rfl) ?_ _
   go_wp2_with fail
   go_roundw
   case rel =>
    refine ⟨J+1,by omega,by go_num,Hd ?_,?_⟩
    ·rw [dK.out]; exact HW.out
    ·exact (hcw.drew).trans (Ye wr.drew g ci bi (pv,px) (qv,qx)) fun _ _ h=>h
   case measure=>simp [intOf]; omega
  ·have hge:¬ ((J:Int)<(n:Int)):=by omega
   have e:J=n:=by omega
   subst e
   go_wp2_with fail
   go_end0
   exact ⟨rfl,HR.out,hcw⟩
end
end Go.Proofs.YtheflbaejhlboaaGreatDoor
