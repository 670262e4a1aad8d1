/- Lemmas for a law of confluencetop. -/
import Derived.Test.YtheflbaejhlboaaGreatDoorTopTx15
set_option linter.all false
set_option maxHeartbeats 16000000
set_option maxRecDepth 1000000
namespace Go.Proofs.YtheflbaejhlboaaGreatDoor
open Tryz
namespace Ev
open Go Go.Proofs Go.RowKit
theorem ZdE {w:World} {rb len:Nat} {row:List Vl} {u:Bool} (h:Zj (fun b=>b=rb) w (.slice (some ⟨rb,0,none⟩) len len) row) (hx:Sh u row):rb<w.heap.size:=by
 obtain ⟨A,cap,e,_,_,h3⟩:=h
 have hl:0<row.length:=by
  cases u
  ·obtain ⟨n,m,s,rfl,_⟩:=hx;simp
  ·obtain ⟨n,m,rfl,_⟩:=hx;simp
 obtain ⟨b,off,e2,hb,hlt,_⟩:=h3 hl;injection e with e3
 rw [e2] at e3;injection e3 with e3
 injection e3 with e3
 subst e3;exact hlt
theorem ZdF:∀ b∈V4.te,∀ w,(S1 [] 0 0 (by decide) (by decide)).Q6 b (fun _=>False) w (.slice none 0 0):=by
 intro b hb w;have hb:b∈[1,2]:=hb;have h:Sm []/\Zo (fun _=>False) w (.slice none 0 0) (Zl []):=⟨Bd.nil.sm (by omega),Zo.Xz _ _⟩
 simp only [List.mem_cons,List.not_mem_nil,or_false] at hb;rcases hb with rfl | rfl <;> exact h
theorem Zii:∀ b∈V4.tm,∀ w c,(S1 [] 0 0 (by decide) (by decide)).Xg b (fun _=>False) w (.map #[] c):=by
 intro b hb w c;have hb:b∈[3]:=hb;simp only [List.mem_cons,List.not_mem_nil,or_false] at hb;subst hb;exact Wq.empty _ _ _ _ c
structure Rows (lo:Nat) (w:World) (H T:Nat->Prop) (own:Option Nat) (B:Option Addr) (cc:Nat) (ps:List (Value×List Vl)):Prop where
 ok:QC w 39 1 own B ps.length cc (ps.map (·.1))
 row:∀ p∈ps,Zj (fun b=>¬ H b/\own≠some b) w p.1 p.2/\Lt p.2
 ap:∀ g,own=some g->¬ H g/\¬ T g/\lo<=g
 low:∀ j,H j->lo<=j
theorem Rows.nil (w:World):Rows w.heap.size w (TT w) (TT w) none none 0 [] :=
 ⟨QC.Xz _ _ _ _,fun p h=>(by cases h),fun g h=>(by cases h),fun j h=>h⟩
theorem Rows.ZlK {w w':World} (hc:Chg (fun _=>False) w w'):Rows w.heap.size w' (TT w) (TT w) none none 0 [] :=
 ⟨QC.Xz _ _ _ _,fun p h=>(by cases h),fun g h=>(by cases h),fun j h=>h⟩
structure ZdG (wr w2:World) (zb rb len:Nat) (rem:Bool) (row:List Vl):Prop where
 cell:w2.heap[zb]? = some (.cells #[.string PF,.slice (some ⟨rb,0,none⟩) len len,.bool rem] 41 (0,0))
 rw:Zj (fun b=>b=rb) w2 (.slice (some ⟨rb,0,none⟩) len len) row
 ok:Lt row
 r0:wr.heap.size<=rb
 z0:wr.heap.size<=zb
 ne:zb≠rb
 lt:rb<w2.heap.size
 chg:Chg (fun _=>False) wr w2
theorem ZlL {wr:World} {rem:Bool} {C:Nat->Nat->Nat->List Vl->World->Prop} {Q:Prop} (f:(∀ zb rb len row W,ZdG wr W zb rb len rem row->C zb rb len row W)->Q) (h:∀ zb rb len row W,ZdG wr W zb rb len rem row->C zb rb len row W):Q:=f h
theorem Zij {wr wA:World} {rb len:Nat} {rem:Bool} {row:List Vl} (hc:Chg (fun _=>False) wr wA) (hrb:wr.heap.size<=rb) (hrow:Zj (fun b=>b=rb) wA (.slice (some ⟨rb,0,none⟩) len len) row) (fq:Sh false row) :
  ZdG wr (wA.alloc (.cells #[.string ⟨#[116]⟩,.slice (some ⟨rb,0,none⟩) len len,.bool rem] 41)) wA.heap.size rb len rem row:=by
 have hlt:=ZdE hrow fq;have hs:=hc.size;have ha:=(Chg.refl (fun _=>False) wA).alloc (.cells #[.string ⟨#[116]⟩,.slice (some ⟨rb,0,none⟩) len len,.bool rem] 41);exact ⟨heap_alloc_new wA _,hrow.Zf ha,fq,hrb,hs,by omega,Nat.lt_of_lt_of_le hlt ha.size,hc.alloc _⟩
theorem Zik {wr wA:World} {rb len:Nat} {rem:Bool} {row:List Vl} {x y z:Value} (hc:Chg (fun _=>False) (wr.drew.alloc (.cells #[x,y,z] 41)) wA) (hrb:(wr.drew.alloc (.cells #[x,y,z] 41)).heap.size<=rb) (hrow:Zj (fun b=>b=rb) wA (.slice (some ⟨rb,0,none⟩) len len) row) (fq:Sh false row) :
  ZdG wr (((wA.setCell ⟨wr.heap.size,0,none⟩ (.string ⟨#[116]⟩)).setCell ⟨wr.heap.size,1,none⟩ (.slice (some ⟨rb,0,none⟩) len len)).setCell ⟨wr.heap.size,2,none⟩ (.bool rem)) wr.heap.size rb len rem row:=by
 have hlt:=ZdE hrow fq;have hd:Chg (fun _=>False) wr wr.drew:=(Chg.refl _ wr).drew;have e1:(wr.drew.alloc (.cells #[x,y,z] 41)).heap.size=wr.heap.size+1:=Array.size_push _;rw [e1] at hrb;have hz:wA.heap[wr.heap.size]? = some (.cells #[x,y,z] 41 (0,0)):=hc.heap (heap_alloc_new wr.drew _) fun h=>h
 have h2:Chg (fun k=>k=wr.heap.size) wA (((wA.setCell ⟨wr.heap.size,0,none⟩ (.string ⟨#[116]⟩)).setCell ⟨wr.heap.size,1,none⟩ (.slice (some ⟨rb,0,none⟩) len len)).setCell ⟨wr.heap.size,2,none⟩ (.bool rem)) :=
  Chg.Qb (T:=fun k=>k=wr.heap.size) (Chg.Qb (T:=fun k=>k=wr.heap.size) (Chg.Qb (T:=fun k=>k=wr.heap.size) (Chg.refl _ _) (D:=wr.heap.size) rfl 0 _) (D:=wr.heap.size) rfl 1 _) (D:=wr.heap.size) rfl 2 _
 refine ⟨?_,hrow.chg h2 fun b hb _=>by omega,fq,by omega,Nat.le_refl _,by omega,Nat.lt_of_lt_of_le hlt h2.size,(((hd.alloc _).trans hc fun _ _ h=>h).trans h2 fun i hi e=>by omega)⟩;rw [heap_setCell_same _ _ 2 _ _ _ (by rw [heap_setCell_same _ _ 1 _ _ _ (by rw [heap_setCell_same _ _ 0 _ _ _ hz])])];rfl
theorem Fo:ZaH prog 61 61 39 1 24:=by
 obtain ⟨i,hi,hz,hs,hb⟩:=info_parts (P:=prog) (e:=39) (z := .slice none 0 0) (size:=1) (bytes:=24) (by kernel_rfl);exact ⟨underlying61,⟨_,underlying61⟩,⟨i,_,hi,hz,hs,hb,rfl⟩,by decide⟩
theorem ZdH (w:World) (x:Value) (t:TypeId):CsK (w.alloc (.cells #[x] t)) (fun b=>b=w.heap.size) 1 (some ⟨w.heap.size,0,none⟩) 1 [x]:=by
 have h:=heap_alloc_new w (.cells #[x] t)
 exact ⟨rfl,fun _=>⟨_,0,rfl,rfl,lt_of_block h,fun j u hu=>by
  match j,hu with
  | 0,hu=>simp at hu; subst hu; rw [cell_of_row _ _ _ _ _ _ h]; rfl
  | j+1,hu=>simp at hu⟩⟩
theorem Rg {w:World} {e:TypeId} {k:Nat} {own:Option Nat} {A:Option Addr} {n cap:Nat} {xs:List Value} (h:QC w e k own A n cap xs):∀ g,own=some g->g<w.heap.size:=fun g hg=>by
 rcases h.2.2 with ⟨h1,_⟩ | ⟨g',cur,h1,_,h2,_⟩
 ·rw [h1] at hg; cases hg
 ·rw [h1] at hg;injection hg with hg
  subst hg;exact lt_of_block h2
theorem Rows.upd {lo:Nat} {wr w2 w5:World} {H T:Nat->Prop} {own:Option Nat} {B:Option Addr} {cc zb rb len:Nat} {ps:List (Value×List Vl)} {rem:Bool} {row:List Vl} (h:Rows lo wr H T own B cc ps) (hN:ZdG wr w2 zb rb len rem row) (hc:Chg (fun j=>H j/\j<wr.heap.size) w2 w5) (hlo:lo<=wr.heap.size) :
  Rows lo w5 (fun j=>H j/\j<wr.heap.size\/w2.heap.size<=j) (fun j=>T j/\j<wr.heap.size\/j=rb\/w2.heap.size<=j) own B cc ps:=by
 have hs:=hN.chg.size;have hl:=Rg h.ok;have hr0:=hN.r0;have ht:Chg (fun j=>H j) wr w5:=((Chg.refl _ wr).trans hN.chg fun _ _ h=>h.elim).trans hc fun i hi hk=>hk.1;refine ⟨h.ok.chg ht fun g hg=>(h.ap g hg).1,fun p hp=>⟨?_,(h.row p hp).2⟩,fun g hg => ?_,fun j hj => ?_⟩
 ·have h1:=(h.row p hp).1
  exact ((h1.mono (G:=fun b=>(¬ H b/\own≠some b)/\b<wr.heap.size) fun b hb hl=>⟨hb,hl⟩).chg ht fun b hb _=>hb.1.1).mono fun b hb _=>⟨fun hh=>by
   rcases hh with hh | hh
   ·exact hb.1.1 hh.1
   ·have:=hb.2; omega,hb.1.2⟩
 ·have h1:=hl g hg;obtain ⟨a1,a2,a3⟩:=h.ap g hg;refine ⟨fun hh => ?_,fun hh => ?_,a3⟩
  ·rcases hh with hh | hh
   ·exact a1 hh.1
   ·omega
  ·rcases hh with hh | hh | hh
   ·exact a2 hh.1
   ·omega
   ·omega
 ·rcases hj with hj | hj
  ·exact h.low j hj.1
  ·omega
theorem Rows.add {lo:Nat} {w5 wA w6:World} {H T:Nat->Prop} {own own':Option Nat} {B B':Option Addr} {cc cc':Nat} {ps:List (Value×List Vl)} {v:Value} {row:List Vl} (h:Rows lo w5 H T own B cc ps) (ha:Chg (fun _=>False) w5 wA) (hown:QC w6 39 1 own' B' (ps.length+1) cc' (ps.map (·.1)++[v]))
  (hor:own'=own\/own'=some wA.heap.size) (hc:Chg (fun b=>own=some b) wA w6) (hrow:Zj (fun b=>¬ H b/\own≠some b) w5 v row) (hcr:Lt row) (hlo:lo<=w5.heap.size) :
  Rows lo w6 (fun j=>H j/\j<w5.heap.size) (fun j=>T j/\j<w5.heap.size) own' B' cc' (ps++[(v,row)]):=by
 have hs:=ha.size;have hl:=Rg h.ok
 have hne:∀ b,own≠some b->b<w5.heap.size->own'≠some b:=fun b h1 h2 e=>by
  rcases hor with h3 | h3
  ·exact h1 (h3▸e)
  ·rw [h3] at e;injection e with e
   omega
 have hmv:∀ (u:Value) (r:List Vl),Zj (fun b=>¬ H b/\own≠some b) w5 u r->Zj (fun b=>¬ (H b/\b<w5.heap.size)/\own'≠some b) w6 u r:=fun u r h1 =>
  (((h1.mono (G:=fun b=>(¬ H b/\own≠some b)/\b<w5.heap.size) fun b hb hl=>⟨hb,hl⟩).Zf ha).chg hc fun b hb _=>hb.1.2).mono fun b hb _=>⟨fun hh=>hb.1.1 hh.1,hne b hb.1.2 hb.2⟩
 refine ⟨by simpa using hown,fun p hp => ?_,fun g hg => ?_,fun j hj=>h.low j hj.1⟩
 ·rcases List.mem_append.1 hp with hp | hp
  ·exact ⟨hmv _ _ (h.row p hp).1,(h.row p hp).2⟩
  ·rw [List.mem_singleton.1 hp];exact ⟨hmv _ _ hrow,hcr⟩
 ·rcases hor with h3 | h3
  ·obtain ⟨a1,a2,a3⟩:=h.ap g (h3▸hg);exact ⟨fun hh=>a1 hh.1,fun hh=>a2 hh.1,a3⟩
  ·rw [h3] at hg;injection hg with hg
   exact ⟨fun hh=>by have:=hh.2; omega,fun hh=>by have:=hh.2; omega,by omega⟩
theorem Rows.read {lo:Nat} {w w':World} {H T:Nat->Prop} {own:Option Nat} {B:Option Addr} {cc:Nat} {ps:List (Value×List Vl)} (h:Rows lo w H T own B cc ps) (hc:Chg H w w') (hlo:lo<=w.heap.size):Rows lo w' (fun j=>H j\/w.heap.size<=j) (fun j=>T j\/w.heap.size<=j) own B cc ps:=by
 have hl:=Rg h.ok;refine ⟨h.ok.chg hc fun g hg=>(h.ap g hg).1,fun p hp=>⟨?_,(h.row p hp).2⟩,fun g hg => ?_,fun j hj=>hj.elim (h.low j) fun hj=>Nat.le_trans hlo hj⟩
 ·exact (((h.row p hp).1.mono (G:=fun b=>(¬ H b/\own≠some b)/\b<w.heap.size) fun b hb hl=>⟨hb,hl⟩).chg hc fun b hb _=>hb.1.1).mono fun b hb _=>⟨fun hh=>hh.elim hb.1.1 fun hh=>absurd hb.2 (by omega),hb.1.2⟩
 ·obtain ⟨a1,a2,a3⟩:=h.ap g hg;have:=hl g hg;exact ⟨fun hh=>hh.elim a1 fun hh=>by omega,fun hh=>hh.elim a2 fun hh=>by omega,a3⟩
theorem Rows.at {lo:Nat} {w:World} {H T:Nat->Prop} {own:Option Nat} {B:Option Addr} {cc:Nat} {ps:List (Value×List Vl)} (h:Rows lo w H T own B cc ps) {j:Nat} {p:Value×List Vl} (hp:ps[j]? = some p) :
  ∃ g rb off cap,B=some ⟨g,0,none⟩/\own=some g/\w.cell? ⟨g,j,none⟩=some (.slice (some ⟨rb,off,none⟩) 3 cap)/\p.1 = .slice (some ⟨rb,off,none⟩) 3 cap/\w.cell? ⟨rb,off+2*3+2,none⟩=some (.string (str (ZF p.2))):=by
 obtain ⟨hr,hcr⟩:=h.row p (List.mem_of_getElem? hp);obtain ⟨n,m,s,e,_⟩:=hcr;obtain ⟨A,cap,e1,h1,h2,h3⟩:=hr;obtain ⟨rb,off,rfl,hb,hlt,hx⟩:=h3 (by rw [e]; simp);obtain ⟨_,_,c2,_⟩:=hx 2 ⟨2,0,s⟩ (by rw [e]; rfl);have hlen:p.2.length=3:=by rw [e]; rfl
 rw [hlen] at e1;rcases h.ok.2.2 with ⟨h4,h5⟩ | ⟨g,cur,h4,h5,h6,h7,h8,h9⟩
 ·have:=h.ok.2.1;have h0:ps.length=0:=by omega
  rw [List.eq_nil_of_length_eq_zero h0] at hp;cases hp
 ·refine ⟨g,rb,off,cap,h5,h4,?_,e1,?_⟩
  ·rw [cell_of_row _ _ _ _ _ _ h6,<- e1];have hj:j<ps.length:=(List.getElem?_eq_some_iff.1 hp).1;have hk:=congrArg (fun l:List Value=>l[j]?) h9;simp only [Nat.mul_one] at hk;rw [List.getElem?_take_of_lt hj,List.getElem?_map,hp] at hk;rw [<- Array.getElem?_toList];exact hk
  ·rw [c2,e];rfl
theorem one_set {F:Nat->Prop} {w:World} {rv:Value} {r:List Vl} {b n:Nat} (hr:Zj F w rv r) (hF:F b) (h0:w.cell? ⟨b,0,none⟩=some rv) (h1:w.cell? ⟨b,1,none⟩=some (tc n 0)) (hn:n<=1125899906842624) (hl:r.length<=1000000):Zo F w (.slice (some ⟨b,0,none⟩) 1 1) [⟨r,n,0⟩]:=by
 refine ⟨some ⟨b,0,none⟩,1,rfl,Nat.le_refl _,by decide,fun _=>⟨b,0,rfl,hF,World.block_lt_of_cell? w _ h0,fun j x hx => ?_⟩⟩
 match j,hx with
 | 0,hx =>
  cases hx;exact ⟨⟨rv,h0,hr⟩,h1,hn,Nat.zero_le _,hl⟩
 | j+1,hx=>simp at hx
theorem Cy {w:World} {b cap:Nat} {n:Int} {x y:ByteArray} (h:w.heap[b]? = some (.cells #[.int .i64 1,.int .i64 n,.string ⟨#[]⟩,.int .i64 2,.int .i64 0,.string x,.int .i64 2,.int .i64 0,.string y] 55 (0,0))) {a c:List UInt8} (hx:x=str a) (hy:y=str c) (ha:a.length<=2) (hc:c.length<=2) :
  Zj (fun k=>k=b) w (.slice (some ⟨b,0,none⟩) 3 3) (VG n a c):=by
 subst hx hy;refine ⟨_,_,rfl,by simp [VG],by decide,fun _=>⟨b,0,rfl,rfl,lt_of_block h,fun j x hj => ?_⟩⟩;have q:=fun i=>cell_of_row w b i _ _ _ h
 match j,hj with
 | 0,hj=>cases hj; exact ⟨by rw [q]; rfl,by rw [q]; rfl,by rw [q]; rfl,by simp⟩
 | 1,hj=>cases hj; exact ⟨by rw [q]; rfl,by rw [q]; rfl,by rw [q]; rfl,by show a.length<=_; omega⟩
 | 2,hj=>cases hj; exact ⟨by rw [q]; rfl,by rw [q]; rfl,by rw [q]; rfl,by show c.length<=_; omega⟩
 | j+3,hj=>simp [VG] at hj
theorem Hu (b:List UInt8) (l:List (List UInt8)) {I:Nat} {x:List UInt8} (h:l[I]? = some x):X0 b (l.take (I+1))=if x<X0 b (l.take I) then x else X0 b (l.take I):=by
 unfold X0;rw [List.take_add_one,h];simp only [Option.toList_some,List.foldl_append,List.foldl_cons,List.foldl_nil]
theorem Hv (b:List UInt8) (l:List (List UInt8)) {I:Nat} {x:List UInt8} (h:l[I]? = some x):X9 b (l.take (I+1))=if X9 b (l.take I)<x then x else X9 b (l.take I):=by
 unfold X9;rw [List.take_add_one,h];simp only [Option.toList_some,List.foldl_append,List.foldl_cons,List.foldl_nil]
theorem Rows.one {lo:Nat} {w:World} {H T:Nat->Prop} {own:Option Nat} {B:Option Addr} {cc:Nat} {ps:List (Value×List Vl)} (h:Rows lo w H T own B cc ps):∀ u∈ps.map (·.1),u.oneCell'=true:=fun u hu=>by
 obtain ⟨p,hp,rfl⟩:=List.mem_map.1 hu;obtain ⟨⟨A,cap,e,_⟩,_⟩:=h.row p hp;rw [e];rfl
theorem ZdI {w:World} {S:Nat->Prop} {A:Option Addr} {n:Nat} {xs:List Value} (h:CsK w S 1 A n xs) {m:Nat} (hm:m<=n):CsK w S 1 A m (xs.take m):=by
 obtain ⟨h1,h2⟩:=h;refine ⟨by rw [List.length_take,h1]; omega,fun h0 => ?_⟩;obtain ⟨b,off,e,hS,hb,hx⟩:=h2 (by omega);exact ⟨b,off,e,hS,hb,fun j u hu=>hx j u (by rw [List.getElem?_take] at hu; split at hu; exact hu; cases hu)⟩
theorem ZdJ {w:World} {S:Nat->Prop} {b off n:Nat} {xs:List Value} (h:CsK w S 1 (some ⟨b,off,none⟩) n xs) {m:Nat} (hm:m<n\/m=n):CsK w S 1 (some ⟨b,off+m,none⟩) (n-m) (xs.drop m):=by
 obtain ⟨h1,h2⟩:=h;refine ⟨by rw [List.length_drop,h1]; omega,fun h0 => ?_⟩;obtain ⟨b',off',e,hS,hb,hx⟩:=h2 (by omega);cases e
 exact ⟨b,off+m,rfl,hS,hb,fun j u hu=>by
  rw [List.getElem?_drop] at hu;have:=hx (m+j) u hu
  rwa [show off+m+j=off+(m+j) by omega]⟩
theorem Zbf {w:World} {S:Nat->Prop} {b cap n:Nat} {xs:List Value} (h:CsK w S 1 (some ⟨b,0,none⟩) n xs) {m:Nat} (hm:m<=n) (hc:n<=cap):CsK w S 1 (if cap=m then some ⟨b,0,none⟩ else some ⟨b,m,none⟩) (n-m) (xs.drop m):=by
 by_cases e:cap=m
 ·rw [if_pos e];have h1:=h.1;exact ⟨by rw [List.length_drop,h1]; omega,fun h0=>absurd h0 (by omega)⟩
 ·rw [if_neg e];have:=ZdJ h (m:=m) (by omega)
  rwa [Nat.zero_add] at this
theorem Rows.del {lo:Nat} {w5 w6:World} {H T:Nat->Prop} {own own':Option Nat} {B B':Option Addr} {cc cc' n:Nat} {ps a b:List (Value×List Vl)} {p:Value×List Vl} (h:Rows lo w5 H T own B cc ps) (hps:ps=a++p::b) (hn:n=(a++b).length) (hown:QC w6 39 1 own' B' n cc' (a.map (·.1)++b.map (·.1)))
  (hor:∀ g,own'=some g->w5.heap.size<=g) (hc:Chg (fun _=>False) w5 w6) (hlo:lo<=w5.heap.size) :
  Rows lo w6 (fun j=>H j/\j<w5.heap.size) (fun j=>T j/\j<w5.heap.size) own' B' cc' (a++b):=by
 subst hn;refine ⟨by simpa using hown,fun q hq => ?_,fun g hg => ?_,fun j hj=>h.low j hj.1⟩
 ·have hq2:q∈ps:=by
   rw [hps];rcases List.mem_append.1 hq with hq | hq
   ·exact List.mem_append_left _ hq
   ·exact List.mem_append_right _ (List.mem_cons_of_mem _ hq)
  obtain ⟨h1,h2⟩:=h.row q hq2;exact ⟨((h1.mono (G:=fun b=>(¬ H b/\own≠some b)/\b<w5.heap.size) fun b hb hl=>⟨hb,hl⟩).Zf hc).mono fun b hb _=>⟨fun hh=>hb.1.1 hh.1,fun e=>by have:=hor b e; have:=hb.2; omega⟩,h2⟩
 ·have:=hor g hg;exact ⟨fun hh=>by have:=hh.2; omega,fun hh=>by have:=hh.2; omega,by omega⟩
theorem Rows.Zhi {lo:Nat} {w w':World} {H T:Nat->Prop} {own:Option Nat} {B:Option Addr} {cc:Nat} {ps:List (Value×List Vl)} (h:Rows lo w H T own B cc ps) (hc:Chg (fun _=>False) w w'):Rows lo w' H T own B cc ps :=
 ⟨h.ok.chg hc fun _ _ h=>h,fun p hp=>⟨(h.row p hp).1.Zf hc,(h.row p hp).2⟩,h.ap,h.low⟩
theorem Rf.inv {H T:Nat->Prop} {g:Value} {n:Nat} {Z:Zs} {w:World} (h:Rf H T g n Z w):Cv n Z:=by
 obtain ⟨_,_,_,hi,_⟩:=h;exact hi
theorem Rf.Zf {H T:Nat->Prop} {g:Value} {n:Nat} {Z:Zs} {w w':World} {C:Nat->Prop} (h:Rf H T g n Z w) (hc:Chg C w w') (hH:∀ k,H k->¬ C k) (hT:∀ k,T k->¬ C k):Rf H T g n Z w':=by
 obtain ⟨y,hx,hy,hi,K⟩:=h;exact ⟨y,hx,hy,hi,K.Zf hc hH hT⟩
theorem VE.Zf {H T:Nat->Prop} {g:Value} {n:Nat} {Z:Zs} {w w':World} {C:Nat->Prop} (h:VE H T g n Z w) (hc:Chg C w w') (hH:∀ k,H k->¬ C k) (hT:∀ k,T k->¬ C k):VE H T g n Z w':=by
 obtain ⟨hx,hy,hi,K⟩:=h;exact ⟨hx,hy,hi,K.Zf hc hH hT⟩
theorem VE.low {H T:Nat->Prop} {g:Value} {n:Nat} {Z:Zs} {w:World} (h:VE H T g n Z w):VE (fun j=>H j/\j<w.heap.size) (fun j=>T j/\j<w.heap.size) g n Z w:=by
 obtain ⟨hx,hy,hi,K⟩:=h;exact ⟨hx,hy,hi,K.mono (fun k hk hl=>⟨hk,hl⟩) fun k hk hl=>⟨hk,hl⟩⟩
theorem ZfH {w:World} {A:Option Addr} {n c:Nat} (haw:∀ W,Calls prog 22 #[] W fun e W'=>e = .returned (.bool true)/\Chg (fun _=>False) W W') (h:EN w A n c) :
  Calls prog 6 #[.slice A n c] w fun e w'=>e = .returned (.bool true)/\Chg (fun _=>False) w w':=by
 obtain ⟨hnc,hcm,pJ⟩:=h;have vH:=Hd pJ;clear pJ;have hR:=@Zif S0;have K0:=Kn.start (S:=S0) (T:=TT w) w;obtain ⟨s1,ct,s2,s3,b1,s4,s5,jQ,call2,call3,call4,call5,jR⟩:=@Uq S0 ZdA;obtain ⟨s6,b2,s7,s8,call6,call7,call8,jS⟩:=@Ur S0 ZdB
 go_enter func6,ntmps6
 go_wp2_with fail
 refine (K0.call hR (fun _ _=>rfl) jQ (fun us W=>call9 us W) (fun r _=>vn)).mono ?_;rintro _ w1 ⟨u1,rfl,K1,h1⟩;obtain ⟨gb,rfl⟩:=K1.ptr;have K1:=K1.low (w0:=w) (fun k hk=>hk) (Nat.le_refl _);have hc1:Chg (fun _=>False) w w1:=(Chg.refl _ w).trans h1 fun i hi hk=>by have hk:w.heap.size<=i:=hk; omega
 clear h1
 go_wp2_with fail
 refine (K1.call hR (fun _ _=>rfl) call2 (fun us W=>call25 us W) (fun r h=>vn)).mono ?_;rintro _ w2 ⟨u2,rfl,K2,h2⟩;have K2:=K2.low (w0:=w) (fun k hk=>hk) hc1.size;have hc2:Chg (fun _=>False) w w2:=hc1.trans h2 fun i hi hk=>by have hk:w.heap.size<=i:=hk; omega
 clear h2
 go_wp2_with fail
 refine (K2.call hR (fun _ _=>rfl) call3 (fun us W=>call12 us W) (us:=[.string ⟨⟨[116]⟩⟩,u2]) (fun r h=>vc vs (vc (vh h) vn))).mono ?_;rintro _ w3 ⟨u3,rfl,K3,h3⟩;have K3:=K3.low (w0:=w) (fun k hk=>hk) hc2.size;have hc3:Chg (fun _=>False) w w3:=hc2.trans h3 fun i hi hk=>by have hk:w.heap.size<=i:=hk; omega
 clear h3
 go_wp2_with fail
 refine (K3.call hR (fun _ _=>rfl) call4 (fun us W=>call11 us W) (us:=[u3,.int .i64 0,.int .i64 1]) (fun r h=>vc (vh h) (vc vi (vc vi vn)))).mono ?_;rintro _ w4 ⟨u4,rfl,K4,h4⟩;have K4:=K4.low (w0:=w) (fun k hk=>hk) hc3.size;have hc4:Chg (fun _=>False) w w4:=hc3.trans h4 fun i hi hk=>by have hk:w.heap.size<=i:=hk; omega
 clear h4
 go_wp2_with fail
 refine (K4.call hR (fun _ _=>rfl) call5 (fun us W=>call10 us W) (us:=[.pointer (some ⟨gb,0,none⟩),u4]) (fun r h=>vc (vh (vt (vt (vt h)))) (vc (vh h) vn))).mono ?_;rintro _ w5 ⟨u5,rfl,K5,h5⟩;have K5:=K5.low (w0:=w) (fun k hk=>hk) hc4.size;have aZ:Chg (fun _=>False) w w5:=hc4.trans h5 fun i hi hk=>by have hk:w.heap.size<=i:=hk; omega
 clear h5;have K5:Kn S0 V2.S (TT w) w5 [.ptr 0 0] [.pointer (some ⟨gb,0,none⟩)]:=K5.view (fun r h=>vh (vt (vt (vt (vt h))))) jR (fun h=>by cases h) (fun _=>rfl) rfl (fun a b h=>by cases h) (fun b h=>by cases h) (fun a b h=>by cases h) (fun b h=>by cases h)
 go_wp2_with fail
 refine (K5.call hR (fun _ _=>rfl) call6 (fun us W=>call14 us W) (fun r h=>vc vs (vc vs vn))).mono ?_;rintro _ w6 ⟨u6,rfl,K6,h6⟩;have K6:=K6.low (w0:=w) (fun k hk=>hk) aZ.size;have hc6:Chg (fun _=>False) w w6:=aZ.trans h6 fun i hi hk=>by have hk:w.heap.size<=i:=hk; omega
 clear h6
 go_wp2_with fail
 refine (K6.call hR (fun _ _=>rfl) call7 (fun us W=>call11 us W) (us:=[u6,.int .i64 0,.int .i64 2]) (fun r h=>vc (vh h) (vc vi (vc vi vn)))).mono ?_;rintro _ w7 ⟨u7,rfl,K7,h7⟩;have K7:=K7.low (w0:=w) (fun k hk=>hk) hc6.size;have cK:Chg (fun _=>False) w w7:=hc6.trans h7 fun i hi hk=>by have hk:w.heap.size<=i:=hk; omega
 clear h7
 go_wp2_with fail
 refine (K7.call hR (fun _ _=>rfl) call8 (fun us W=>call10 us W) (us:=[.pointer (some ⟨gb,0,none⟩),u7]) (fun r h=>vc (vh (vt (vt h))) (vc (vh h) vn))).mono ?_;rintro _ w8 ⟨u8,rfl,K8,h8⟩;have K8:=K8.low (w0:=w) (fun k hk=>hk) cK.size;have hc8:Chg (fun _=>False) w w8:=cK.trans h8 fun i hi hk=>by have hk:w.heap.size<=i:=hk; omega
 clear h8;have K8:Kn (S1 [] 0 0 (by decide) (by decide)) V4.S (TT w) w8 [.ptr 0 0] [.pointer (some ⟨gb,0,none⟩)]:=K8.view (fun r h=>vh (vt (vt (vt h)))) jS (fun _=>rfl) (fun h=>by cases h) rfl (fun a b h=>by cases h) ZdF (fun a b h=>by cases h) Zii;have hst:Rf (TT w) (TT w) (.pointer (some ⟨gb,0,none⟩)) 0 [] w8:=⟨0,by decide,by decide,Jo.start _,K8.toH⟩
 clear K0 K1 K2 K3 K4 K5 K6 K7 K8 jQ call2 call3 call4 call5 call6 call7 call8 jR jS hR hc1 hc2 hc3 hc4 aZ hc6 cK
 go_wp2_with fail
 go_loopw [4,5] (fun hv i wr=>∃ (k:Nat) (H T:Nat->Prop) (Z:Zs) (own:Option Nat) (B:Option Addr) (cc:Nat) (ps:List (Value×List Vl)),k<=30/\i = .int .i64 k/\hv = .slice B ps.length cc/\Hid (Rows w.heap.size wr H T own B cc ps)/\Hid (Bag Z (ps.map (·.2)))/\Rf H T (.pointer (some ⟨gb,0,none⟩)) k Z wr/\ps.length<=k/\Chg (fun _=>False) w wr) (fun hv i _=>30-(intOf i).toNat)
 case atStart=>exact ⟨0,TT w,TT w,[],none,none,0,[],by omega,rfl,rfl,Hd (Rows.ZlK hc8),Hd Bag.nil,hst,Nat.le_refl _,hc8⟩
 case round =>
  obtain ⟨k,H,T,Z,own,B,cc,ps,aaA,rfl,rfl,HR,HB,hst',hpk,hcw⟩:=hrel;by_cases hkn:k<n/\k<30
  ·have l0:(k:Int)<(n:Int):=by omega
   have l1:(k:Int)<30:=by omega
   obtain ⟨b,off,rfl,hb,hall⟩:=vH.out (by omega);obtain ⟨tab,rv,r,rem,q0,q1,q2,hr⟩:=hall k hkn.1;have q1:=hcw.cell q1 (fun h=>h);have q2:=hcw.cell q2 (fun h=>h);have hr:=hr.Zf hcw;have HT:∀ W,Chg (fun _=>False) wr W->Calls prog 24 #[.agg #[.string ⟨#[120,120]⟩,rv,.bool rem]] W (ZdC W false rem):=fun W hW=>Ut (tab:=⟨#[120,120]⟩) (hr.Zf hW) rfl;obtain ⟨RA,ae,rfl,_⟩:=hr;clear hall q0;have HST:=Hd hst';clear hst'
   go_wp2_with fail
   have hWd:Chg (fun _=>False) wr wr.drew:=(Chg.refl _ wr).drew;have d1:wr.drew.cell? ⟨b,off+k*3+1,none⟩=some (.slice RA r.length ae):=hWd.cell q1 fun h=>h;have d2:wr.drew.cell? ⟨b,off+k*3+2,none⟩=some (.bool rem):=hWd.cell q2 fun h=>h;apply ZlL (wr:=wr) (rem:=rem)
   ·intro hK;refine RU [0,1,2,3,4,5,6,7,8,9,10] (S:=fun wx=>wx.cell? ⟨b,off+k*3+1,none⟩=some (.slice RA r.length ae)/\wx.cell? ⟨b,off+k*3+2,none⟩=some (.bool rem)) (by kernel_rfl) ⟨d1,d2⟩ (fun hHeld => ?_);refine tkE 0 (some 35) ?_;refine tkE 1 (some 36) ?_;refine tkE 2 (some 37) ?_;refine tkE 3 (some 38) ?_;refine tkE 4 (some 39) ?_;refine tkE 5 (some 40) ?_;refine tkE 6 (some 41) ?_;refine tkE 7 (some 42) ?_;refine tkE 8 (some 43) ?_;refine tkE 9 (some 44) ?_;refine tkE 10 (some 45) ?_;refine J6 (rs:=[11,12]) (by kernel_rfl) (by simp) ?_;refine ZN.cons rfl (fun K hK => ?_) ?_
    ·skip
     go_simp;refine (HT _ hWd).mono ?_;rintro _ wA ⟨rb,len,row,rfl,hrb,hrow,fq,hA⟩;have e1:=hA.cell d1 fun h=>h;have e2:=hA.cell d2 fun h=>h
     go_wp2_with fail
     refine hK.out _ _ ?_ (fun hHeld => ?_)
     ·(first | exact ⟨e1,e2⟩ | exact ⟨((hWd.trans hA fun _ _ h=>h).alloc _).cell q1 (fun h=>h),((hWd.trans hA fun _ _ h=>h).alloc _).cell q2 (fun h=>h)⟩ | exact ⟨(hWd.alloc _).cell q1 (fun h=>h),(hWd.alloc _).cell q2 (fun h=>h)⟩)
     clear hK K
     try simp only [Act.put,List.setIfInBounds_toArray,List.set_cons_zero,List.set_cons_succ]
     refine J6 (rs:=[12]) (by kernel_rfl) (by simp) ?_;refine ZN.cons rfl (fun K hK => ?_) ZN.nil;go_simp
     skip
     refine hK.out _ _ ?_ (fun hHeld => ?_)
     ·(first | exact ⟨e1,e2⟩ | exact ⟨((hWd.trans hA fun _ _ h=>h).alloc _).cell q1 (fun h=>h),((hWd.trans hA fun _ _ h=>h).alloc _).cell q2 (fun h=>h)⟩ | exact ⟨(hWd.alloc _).cell q1 (fun h=>h),(hWd.alloc _).cell q2 (fun h=>h)⟩)
     clear hK K
     try simp only [Act.put,List.setIfInBounds_toArray,List.set_cons_zero,List.set_cons_succ]
     refine J6 (rs:=[13]) (by kernel_rfl) (by simp) ?_;refine ZN.ZQ rfl (by kernel_rfl) (fun K hK => ?_) ZN.nil;go_simp;refine hK.out _ _ ?_;clear hK K
     try simp only [Act.put,List.setIfInBounds_toArray,List.set_cons_zero,List.set_cons_succ]
     refine SX (by kernel_rfl) ?_ _;have hN:=Zij (rem:=rem) (hWd.trans hA fun _ _ h=>h) hrb hrow fq;obtain ⟨W2,hW2⟩:∃ x,x=(wA.alloc (.cells #[.string ⟨#[116]⟩,.slice (some ⟨rb,0,none⟩) len len,.bool rem] 41)):=⟨_,rfl⟩
     rw [<- hW2] at hN ⊢;obtain ⟨zb,hzb⟩:∃ x,x=wA.heap.size:=⟨_,rfl⟩
     rw [<- hzb] at hN ⊢;exact hK zb rb len row W2 hN
    refine ZN.cons rfl (fun K hK => ?_) ?_
    ·skip
     go_simp
     skip
     refine hK.out _ _ ?_ (fun hHeld => ?_)
     ·(first | exact ⟨e1,e2⟩ | exact ⟨((hWd.trans hA fun _ _ h=>h).alloc _).cell q1 (fun h=>h),((hWd.trans hA fun _ _ h=>h).alloc _).cell q2 (fun h=>h)⟩ | exact ⟨(hWd.alloc _).cell q1 (fun h=>h),(hWd.alloc _).cell q2 (fun h=>h)⟩)
     clear hK K
     try simp only [Act.put,List.setIfInBounds_toArray,List.set_cons_zero,List.set_cons_succ]
     refine J6 (rs:=[11]) (by kernel_rfl) (by simp) ?_;refine ZN.cons rfl (fun K hK => ?_) ZN.nil;go_simp;refine (HT _ (hWd.alloc _)).mono ?_;rintro _ wA ⟨rb,len,row,rfl,hrb,hrow,fq,hA⟩;have e1:=hA.cell ((hWd.alloc _).cell q1 fun h=>h) fun h=>h;have e2:=hA.cell ((hWd.alloc _).cell q2 fun h=>h) fun h=>h;have hz:wA.heap[wr.heap.size]? = some (.cells #[.string ⟨#[]⟩,.slice none 0 0,.bool false] 41 (0,0)):=hA.heap (heap_alloc_new wr.drew _) fun h=>h;obtain ⟨z0,z1,z2⟩:=Z1 hz;have zf0:=frozen_of_row _ _ 0 _ _ hz;have zf1:=frozen_of_row _ _ 1 _ _ hz;have zf2:=frozen_of_row _ _ 2 _ _ hz
     go_wp2_with fail
     refine hK.out _ _ ?_ (fun hHeld => ?_)
     ·(first | exact ⟨e1,e2⟩ | exact ⟨((hWd.trans hA fun _ _ h=>h).alloc _).cell q1 (fun h=>h),((hWd.trans hA fun _ _ h=>h).alloc _).cell q2 (fun h=>h)⟩ | exact ⟨(hWd.alloc _).cell q1 (fun h=>h),(hWd.alloc _).cell q2 (fun h=>h)⟩)
     clear hK K
     try simp only [Act.put,List.setIfInBounds_toArray,List.set_cons_zero,List.set_cons_succ]
     refine J6 (rs:=[13]) (by kernel_rfl) (by simp) ?_;refine ZN.ZQ rfl (by kernel_rfl) (fun K hK => ?_) ZN.nil;go_simp;refine hK.out _ _ ?_;clear hK K
     try simp only [Act.put,List.setIfInBounds_toArray,List.set_cons_zero,List.set_cons_succ]
     refine SX (by kernel_rfl) ?_ _;have hN:=Zik (rem:=rem) hA hrb hrow fq;obtain ⟨W2,hW2⟩:∃ x,x=(((wA.setCell ⟨wr.heap.size,0,none⟩ (.string ⟨#[116]⟩)).setCell ⟨wr.heap.size,1,none⟩ (.slice (some ⟨rb,0,none⟩) len len)).setCell ⟨wr.heap.size,2,none⟩ (.bool rem)):=⟨_,rfl⟩
     rw [<- hW2] at hN ⊢;obtain ⟨zb,hzb⟩:∃ x,x=wr.heap.size:=⟨_,rfl⟩
     rw [<- hzb] at hN ⊢;exact hK zb rb len row W2 hN
    exact ZN.nil
   ·intro zb rb len row w2 hN;obtain ⟨y,hx,hy,hi,K⟩:=HST.out;obtain ⟨P1,P2,p1,p2,p3⟩:=Zku (rem:=rem) hi (by omega) K hN.chg hN.rw hN.r0 hN.lt hN.ok;have HN:=Hd hN;obtain ⟨z0,z1,z2⟩:=Z1 hN.cell;obtain ⟨tb,htb⟩:∃ x,x=PF:=⟨_,rfl⟩
    rw [<- htb] at p1 z0;have HTB:=Hd htb;clear hN K hi htb HST
    go_wp2_with fail
    refine p1.mono ?_;rintro _ v2 ⟨x1,rfl,h1⟩
    go_wp2_with fail
    refine (p2 _ _ h1).mono ?_;rintro _ v3 ⟨x2,rfl,h2⟩
    go_wp2_with fail
    refine (p3 _ _ h2).mono ?_;rintro _ w5 ⟨v,rfl,hU,hch⟩;have hN:=HN.out;have hlo:w.heap.size<=wr.heap.size:=hcw.size;have dX:=Hd (HR.out.upd hN hch hlo);have bu:Chg (fun _=>False) w w5:=((hcw.trans hN.chg fun _ _ h=>h).trans hch fun i hi hk=>by have:=HR.out.low i hk.1; omega)
    have zY:=hch.heap hN.cell fun h=>by have:=h.2; have:=hN.z0; omega
    have rG:=Hd zY;clear hN z0 z1 z2 zY p1 p2 p3 h1 h2 P1 P2;rcases hU with ⟨rfl,hth,dL⟩ | ⟨rfl,hA⟩
    ·unfold rE;obtain ⟨y0,y1,y2⟩:=Z1 rG.out;cases rem
     ·have mQ:=(Chg.refl (fun _=>False) w5).alloc (.cells #[.slice (some ⟨rb,0,none⟩) len len] 39);have zZ:=Hd (dX.out.ok.chg mQ fun _ _ h=>h);have H1:=Hd (ZdH w5 (.slice (some ⟨rb,0,none⟩) len len) 39)
      go_wp2_with (at_builtin; refine ZG rfl _ _ 61 61 rfl 39 1 24 Fo own B ps.length cc 1 (ps.map (·.1)) [.slice (some ⟨rb,0,none⟩) len len] _ rfl rfl zZ.out (X2.slice H1.out) (by simp [Value.oneCell']) (ps.length+1) rfl (by omega) (by omega) ?_)
      intro own' B' c' w6 hown hor ag;have hnr:=HN.out
      have jT:Zj (fun b=>¬ (H b/\b<wr.heap.size\/w2.heap.size<=b)/\own≠some b) w5 (.slice (some ⟨rb,0,none⟩) len len) row:=(hnr.rw.chg hch fun b hb _ h=>by have h:=h.2; have:=hnr.r0; omega).mono fun b hb _=>⟨fun h=>by
       have h1:=hnr.r0;have h2:=hnr.lt;rcases h with h | h
       ·have:=h.2; omega
       ·omega,fun h=>by
       have h1:=Rg HR.out.ok b h;have h2:=hnr.r0
       omega⟩
      have jk:=Hd (dX.out.add mQ hown (by rw [show (w5.alloc (.cells #[.slice (some ⟨rb,0,none⟩) len len] 39)).heap.size=w5.heap.size+1 from Array.size_push _]; exact hor) ag jT hnr.ok (Nat.le_trans hcw.size (Nat.le_trans hnr.chg.size hch.size)));have lD:=(dL.low.Zf mQ (fun _ _ h=>h) fun _ _ h=>h).Zf ag (fun j hj h=>(dX.out.ap j h).1 hj.1) fun j hj h=>(dX.out.ap j h).2.1 hj.1;have hc6:Chg (fun _=>False) w w6:=(bu.trans mQ fun _ _ h=>h).trans ag fun i hi h=>by have:=(dX.out.ap i h).2.2; omega
      have iE:=Hd (by have:=HB.out.add row; rw [show ps.map (fun p=>p.2)++[row]=(ps++[((.slice (some ⟨rb,0,none⟩) len len:Value),row)]).map (fun p=>p.2) by simp] at this; exact this:Bag (Qi row 1 Z) ((ps++[((.slice (some ⟨rb,0,none⟩) len len:Value),row)]).map (fun p=>p.2)));have z8:=Hd (ag.heap (mQ.heap rG.out fun h=>h) fun h=>by have h1:=Rg HR.out.ok zb h; have:=hnr.z0; omega);clear hnr jT hown hor zZ H1 y0 y1 y2 ag mQ dL;obtain ⟨y0,y1,y2⟩:=Z1 z8.out
      go_wp2_with fail
      go_loopw [4,7] (fun hv i wx=>hv = .slice B' (ps.length+1) c'/\i = .int .i64 0/\wx=w6) (fun hv i _=>0)
      case atStart=>exact ⟨rfl,rfl,rfl⟩
      case round =>
       obtain ⟨rfl,rfl,rfl⟩:=hrel;have hlp:(0:Int)<((ps.length+1:Nat):Int):=by omega
       have hlen:(ps++[((.slice (some ⟨rb,0,none⟩) len len:Value),row)]).length=ps.length+1:=by simp
       have hpn:ps.length+1<=k+1:=by omega
       obtain ⟨aK,iF⟩:∃ x,x=ps++[((.slice (some ⟨rb,0,none⟩) len len:Value),row)]:=⟨_,rfl⟩
       rw [<- iF] at jk iE hlen;obtain ⟨ln,hln⟩:∃ x,x=ps.length+1:=⟨_,rfl⟩
       rw [<- hln] at hlen hpn hlp ⊢;have hZ:Qi row (sd !false) Z=Qi row 1 Z:=rfl;rw [hZ] at lD;clear iF hln hZ dX rG z8 HB HR
       go_wp2_with fail
       refine (zX (by omega) lD).mono ?_;rintro _ w7 ⟨sv,rfl,hset,lF,dY⟩;have dH:=Hd (jk.out.read dY hc6.size);have cK:Chg (fun _=>False) w w7:=hc6.trans dY fun i hi h=>by have:=jk.out.low i h; omega
       have pK:=lF.inv;have hset':=hset;obtain ⟨SA,lG,rfl,_⟩:=hset';have pM:=Hd lF;have HS:=Hd hset;clear hset lD lF jk dY hc6 bu hcw;by_cases he:aK=[]
       ·have vN:=(iE.out.empty pK.t.set).1 (by rw [he]; rfl);have hl0:ln=0:=by rw [<- hlen,he]; rfl
        have hs0:∀ Z:Zs,Z=[]->(Zl (cO Z)).length=0:=fun Z h=>by subst h; rfl
        have hs1:=hs0 _ vN;subst hl0;rw [hs1]
        go_wp2_with fail
        go_roundw
        case rel=>exact ⟨k+1,_,_,_,_,_,_,aK,by omega,by go_num,by rw [hlen],dH,iE,pM.out,by omega,cK⟩
        case measure=>simp [intOf]; omega
       ·obtain ⟨p0,ps0,hps⟩:∃ p l,aK=p::l:=by cases aK with | nil=>exact absurd rfl he | cons p l=>exact ⟨p,l,rfl⟩
        have hl1:0<ln:=by rw [<- hlen,hps]; simp
        have hl2:(ln:Int)≠0:=by omega
        obtain ⟨gn,pO,pQ,vO,pU,hown,c0,hv0,c1⟩:=dH.out.at (j:=0) (p:=p0) (by rw [hps]; rfl);have HBn:=Hd pU;subst pU;have hl3:(0:Int)<(ln:Int):=by omega
        go_wp2_with fail
        go_region_held (fun wx=>wx.cell? ⟨gn,0,none⟩=some (.slice (some ⟨pO,pQ,none⟩) 3 vO)/\wx.cell? ⟨pO,pQ+2*3+2,none⟩=some (.string (str (ZF p0.2)))) (go_keep) (fail)
        have hcd:Chg (fun _=>False) w7 w7.drew:=(Chg.refl _ w7).drew
        go_wp2_with fail
        go_loopw [10,11,12] (fun a bb i wx=>∃ I:Nat,I<=ln/\i = .int .i64 I/\a = .string (str (X0 (ZF p0.2) ((aK.map fun p=>ZF p.2).take I)))/\bb = .string (str (X9 (ZF p0.2) ((aK.map fun p=>ZF p.2).take I)))/\Chg (fun _=>False) w7 wx) (fun a bb i _=>ln-(intOf i).toNat)
        case atStart=>exact ⟨0,Nat.zero_le _,rfl,rfl,rfl,hcd⟩
        case round =>
         obtain ⟨I,hI,rfl,rfl,rfl,hcI⟩:=hrel;by_cases rH:I<ln
         ·have jl:(I:Int)<(ln:Int):=by omega
          obtain ⟨p,fZ⟩:∃ p,aK[I]? = some p:=⟨_,List.getElem?_eq_getElem (by omega)⟩
          obtain ⟨gm,rJ,rM,rO,hBm,_,d0,_,d1⟩:=dH.out.at fZ;injection hBm with hBm
          injection hBm with hBm
          subst hBm;have d0:=hcI.cell d0 fun h=>h;have d1:=hcI.cell d1 fun h=>h;have lH:(aK.map fun p=>ZF p.2)[I]? = some (ZF p.2):=by rw [List.getElem?_map,fZ]; rfl
          have jm:=Hd (Hu (ZF p0.2) _ lH);have jo:=Hd (Hv (ZF p0.2) _ lH);obtain ⟨sx,hsx⟩:∃ x,x=ZF p.2:=⟨_,rfl⟩
          obtain ⟨M,hM⟩:∃ x,x=X0 (ZF p0.2) ((aK.map fun p=>ZF p.2).take I):=⟨_,rfl⟩
          obtain ⟨X,hX⟩:∃ x,x=X9 (ZF p0.2) ((aK.map fun p=>ZF p.2).take I):=⟨_,rfl⟩
          rw [<- hsx] at d1 jm jo;rw [<- hM] at jm ⊢;rw [<- hX] at jo ⊢;clear lH fZ hsx hM hX c0 c1;have eM:Op.bytesLess (str sx).toList (str M).toList=decide (sx<M):=by rw [ZO,ZO,Go.Proofs.bytesLess_eq]
          have eX:Op.bytesLess (str sx).toList (str X).toList=decide (sx<X):=by rw [ZO,ZO,Go.Proofs.bytesLess_eq]
          have eE:((str sx).toList==(str X).toList)=decide (sx=X):=by rw [ZO,ZO]; by_cases h:sx=X <;> simp [h]
          have vQ:∃ D,D=decide (sx<M)/\X0 (ZF p0.2) ((aK.map fun p=>ZF p.2).take (I+1))=if D then sx else M:=⟨_,rfl,by rw [jm.out]; by_cases h:sx<M <;> simp [h]⟩
          obtain ⟨D,hD,dZ⟩:=vQ
          have vR:∃ E1 E2,E1=decide (sx<X)/\E2=decide (sx=X)/\X9 (ZF p0.2) ((aK.map fun p=>ZF p.2).take (I+1))=if (!E1 && !E2) then sx else X:=⟨_,_,rfl,rfl,by
           rw [jo.out];by_cases h1:X<sx
           ·have h2:¬ sx<X:=fun h=>List.lt_irrefl X (List.lt_trans h1 h);have h3:¬ sx=X:=fun h=>List.lt_irrefl X (h▸h1);simp [h1,h2,h3]
           ·by_cases h2:sx<X
            ·simp [h1,h2]
            ·have h3:sx=X:=List.le_antisymm (List.not_lt.1 h1) (List.not_lt.1 h2)
             simp [h1,h3]⟩
          obtain ⟨E1,E2,hE1,hE2,ed⟩:=vR;rw [<- hD] at eM;rw [<- hE1] at eX;rw [<- hE2] at eE;have iX:=Hd dZ;have eG:=Hd ed;clear hD hE1 hE2 dZ ed jm jo;cases D <;> cases E1 <;> cases E2
          all_goals
           go_wp2_with fail
           go_roundw
           case rel=>exact ⟨I+1,by omega,by go_num,by rw [iX.out]; rfl,by rw [eG.out]; rfl,hcI⟩
           case measure=>simp [intOf]; omega
         ·have jl:¬ (I:Int)<(ln:Int):=by omega
          have pV:(aK.map fun p=>ZF p.2).take I=aK.map fun p=>ZF p.2:=List.take_of_length_le (by rw [List.length_map]; omega);rw [pV];have key:=EM pK iE.out (r0:=p0.2) (rest:=ps0.map fun p=>p.2) (by rw [hps]; rfl);rw [List.map_map,List.length_map,hlen] at key;rw [key] at HS ⊢
          have htx:∀ s∈ZF p0.2::aK.map (fun p=>ZF p.2),s.length<=2:=fun s hs=>by
           rcases List.mem_cons.1 hs with rfl | hs
           ·exact (Kz (dH.out.row p0 (by rw [hps]; exact List.mem_cons_self)).2).2
           ·obtain ⟨q,hq,rfl⟩:=List.mem_map.1 hs;exact (Kz (dH.out.row q hq).2).2
          obtain ⟨MN,dZ⟩:∃ x,x=X0 (ZF p0.2) (aK.map fun p=>ZF p.2):=⟨_,rfl⟩
          obtain ⟨MX,ed⟩:∃ x,x=X9 (ZF p0.2) (aK.map fun p=>ZF p.2):=⟨_,rfl⟩
          have hm2:MN.length<=2:=by rw [dZ]; exact htx _ (Wu _ _).1
          have hx2:MX.length<=2:=by rw [ed]; exact htx _ (Wv _ _).1
          have HS2:=Hd (show Zo (fun _=>True) w7 (.slice SA 1 lG) [⟨VG (ln:Int) MN MX,1,0⟩] from by rw [dZ,ed]; exact HS.out);rw [<- dZ,<- ed];clear htx dZ ed key pV HS c0 c1
          go_wp2_with fail
          refine (Su _ _).mono ?_;rintro _ x1 ⟨rfl,g1⟩
          go_wp2_with fail
          refine (Ww _ _).mono ?_;rintro _ x2 ⟨rfl,g2⟩
          go_wp2_with fail
          refine (Ww _ _).mono ?_;rintro _ x3 ⟨rfl,g3⟩;have hcx:Chg (fun _=>False) w7 x3:=((hcI.trans g1 fun _ _ h=>h).trans g2 fun _ _ h=>h).trans g3 fun _ _ h=>h;have hax:=(Chg.refl (fun _=>False) x3).alloc (.cells #[.int .i64 1,.int .i64 (ln:Int),.string ⟨#[]⟩,.int .i64 2,.int .i64 0,.string (str MN),.int .i64 2,.int .i64 0,.string (str MX)] 55);have HRW:=Hd (Cy (cap:=3) (heap_alloc_new x3 (.cells #[.int .i64 1,.int .i64 (ln:Int),.string ⟨#[]⟩,.int .i64 2,.int .i64 0,.string (str MN),.int .i64 2,.int .i64 0,.string (str MX)] 55)) rfl rfl hm2 hx2)
          go_wp2_with fail
          refine (Ht (n:=1) HRW.out (by omega) (by simp [VG])).mono ?_;rintro _ x4 ⟨ub,rfl,⟨ob,bq,rfl,o0,o1⟩,g4⟩;have hc4:Chg (fun _=>False) w7 x4:=(hcx.trans hax fun _ _ h=>h).trans g4 fun _ _ h=>h;have vS:=Hd (one_set (F:=fun _=>True) ((HRW.out.Zf g4).mono fun _ _ _=>trivial) trivial o0 o1 (by omega) (by simp [VG]));clear o0 o1
          go_wp2_with fail
          refine (Ng (HS2.out.Zf hc4) vS.out).mono ?_;rintro _ x5 ⟨rfl,g5⟩;have aZ:=hc4.trans g5 fun _ _ h=>h
          go_wp2_with fail
          go_roundw
          case rel=>exact ⟨k+1,_,_,_,_,_,_,aK,by omega,by go_num,by rw [hlen],Hd (dH.out.Zhi aZ),iE,pM.out.Zf aZ (fun _ _ h=>h) (fun _ _ h=>h),by omega,cK.trans aZ fun _ _ h=>h⟩
          case measure=>simp [intOf]; omega
     ·have Aa:=Hd (hth rfl);have Ab:=Hd dL;clear hth dL
      go_wp2_with fail
      go_loopw [4,7] (fun hv i wx=>∃ I:Nat,I<=ps.length/\hv = .slice B ps.length cc/\i = .int .i64 I/\Hid (∀ j p,j<I->ps[j]? = some p->p.2≠row)/\Chg (fun _=>False) w5 wx) (fun hv i _=>ps.length-(intOf i).toNat)
      case atStart=>exact ⟨0,Nat.zero_le _,rfl,rfl,Hd (fun j p h=>absurd h (Nat.not_lt_zero _)),Chg.refl _ _⟩
      case round =>
       obtain ⟨I,hI,rfl,rfl,vV,hcI⟩:=hrel;have y0:=hcI.cell y0 fun h=>h;have y1:=hcI.cell y1 fun h=>h;have y2:=hcI.cell y2 fun h=>h;by_cases rH:I<ps.length
       ·have jl:(I:Int)<(ps.length:Int):=by omega
        obtain ⟨p,fZ⟩:∃ p,ps[I]? = some p:=⟨_,List.getElem?_eq_getElem rH⟩
        obtain ⟨gm,rJ,rM,rO,hBm,jU,d0,hpv,_⟩:=dX.out.at fZ;have d0:=hcI.cell d0 fun h=>h;have hpr:=dX.out.row p (List.mem_of_getElem? fZ)
        have hlen3:p.2.length=row.length:=by
         have h1:=congrArg List.length hpr.2.right.2;have h2:=congrArg List.length HN.out.ok.right.2;simpa using h1.trans h2.symm
        have hrow:∀ W,Chg (fun _=>False) wr W->Calls prog 26 #[.slice (some ⟨rJ,rM,none⟩) 3 rO,.slice (some ⟨rb,0,none⟩) len len] W fun e w'=>e = .returned (.bool (decide (p.2=row)))/\Chg (fun _=>False) W w':=fun W hW=>Cw ((hpv▸hpr.1).Zf (hcI.trans hW fun _ _ h=>h)) ((HN.out.rw.chg hch fun b hb _ h=>by have h:=h.2; have:=HN.out.r0; omega).Zf (hcI.trans hW fun _ _ h=>h)) hlen3;have Ac:=Hd (And.intro fZ jU);subst hBm;clear fZ hpr hlen3 hpv jU;obtain ⟨D,hD⟩:∃ D,D=decide (p.2=row):=⟨_,rfl⟩
        rw [<- hD] at hrow;have HD:=Hd hD;clear hD
        go_wp2_with fail
        have pW:Chg (fun _=>False) wr wr.drew:=(Chg.refl _ wr).drew;have f0:=pW.cell d0 fun h=>h;have f1:=pW.cell y1 fun h=>h;refine wp_region_held_drew (S:=fun wx=>wx.cell? ⟨gm,I,none⟩=some (.slice (some ⟨rJ,rM,none⟩) 3 rO)/\wx.cell? ⟨zb,1,none⟩=some (.slice (some ⟨rb,0,none⟩) len len)) (by kernel_rfl) ⟨f0,f1⟩ (fun hHeld => ?_);refine tkH 0 (some 75) ?_;refine tkH 1 (some 76) ?_;refine tkH 2 (some 77) ?_;refine tkH 3 (some 78) ?_;refine tkH 4 (some 79) ?_;refine tkH 5 (some 80) ?_;refine wpAnyH_ready (rs:=[6]) (by kernel_rfl) (by simp) ?_;refine AllReadyH.cons rfl (fun K hK => ?_) AllReadyH.nil;go_simp;refine (hrow _ pW).mono ?_;rintro _ wB ⟨rfl,hB1⟩;have k0:=hB1.cell f0 (fun h=>h);have k1:=hB1.cell f1 (fun h=>h)
        go_wp2_with fail
        refine hK.out _ _ ?_ (fun hHeld => ?_)
        ·(exact ⟨k0,k1⟩)
        clear hK K
        try simp only [Act.put,List.setIfInBounds_toArray,List.set_cons_zero,List.set_cons_succ]
        refine wpAnyH_done (by kernel_rfl) ?_ _;cases D
        ·go_wp2_with fail
         go_roundw
         case rel=>exact ⟨I+1,by omega,rfl,by go_num,Hd (fun j q hj hq=>by
          by_cases e:j=I
          ·subst e;rw [Ac.out.1] at hq;cases hq;exact of_decide_eq_false HD.out.symm
          ·exact vV.out j q (by omega) hq),(hcI.trans pW fun _ _ h=>h).trans hB1 fun _ _ h=>h⟩
         case measure=>simp [intOf]; omega
        ·have hlc:ps.length<=cc:=dX.out.ok.2.1;have rP:Chg (fun _=>False) w5 wB:=(hcI.trans pW fun _ _ h=>h).trans hB1 fun _ _ h=>h;have hIc:I<=cc:=by omega
         have hI1:I+1<=ps.length:=by omega
         have aaC:I+1<=cc:=by omega
         have HOW:=Hd (dX.out.ok.chg rP fun _ _ h=>h);have hw1:IntKind.i64.wrap ((I:Int)+1)=(I:Int)+1:=IntWalk.i64_in _ (by omega);have hw2:((I:Int)+1).toNat=I+1:=by omega
         have hw3:(0:Int)<=(I:Int)+1:=by omega
         have hw4:(I:Int)+1<=(ps.length:Int):=by omega
         go_wp2_with fail
         refine wp_region_held_drew (S:=fun _=>True) (by kernel_rfl) trivial (fun hHeld => ?_);refine tkH 1 (some 83) ?_;refine tkH 2 (some 84) ?_;refine tkH 3 (some 85) ?_;refine tkH 5 (some 87) ?_;refine tkH 6 (some 88) ?_;refine tkH 7 (some 89) ?_;refine tkH 8 (some 90) ?_;refine wpAnyH_ready (rs:=[0]) (by kernel_rfl) (by simp) ?_;refine AllReadyH.cons rfl (fun K hK => ?_) AllReadyH.nil;go_simp
         skip
         refine hK.out _ _ ?_ (fun hHeld => ?_)
         ·(trivial)
         clear hK K
         try simp only [Act.put,List.setIfInBounds_toArray,List.set_cons_zero,List.set_cons_succ]
         refine wpAnyH_ready (rs:=[4]) (by kernel_rfl) (by simp) ?_;refine AllReadyH.cons rfl (fun K hK => ?_) AllReadyH.nil;have hE:Chg (fun _=>False) wB (wB.alloc (.cells #[] 39)).drew:=((Chg.refl (fun _=>False) wB).alloc _).drew;have HT1:=Hd (ZdI ((HOW.out.chg hE fun _ _ h=>h).cs) hI);refine Q8 rfl _ _ 61 61 rfl 39 1 24 Fo none _ 0 0 I [] ((ps.map (·.1)).take I) _ rfl rfl (QC.Xz _ _ _ _) (X2.slice HT1.out) (fun u hu=>dX.out.one u (List.mem_of_mem_take hu)) I (by omega) ?_ ?_ ?_
         ·omega
         ·omega
         intro pX B1 c1 v1 hown1 pY jV;go_simp;refine hK.out _ _ ?_ (fun hHeld => ?_)
         ·(trivial)
         clear hK K
         try simp only [Act.put,List.setIfInBounds_toArray,List.set_cons_zero,List.set_cons_succ]
         refine wpAnyH_ready (rs:=[9]) (by kernel_rfl) (by simp) ?_;refine AllReadyH.cons rfl (fun K hK => ?_) AllReadyH.nil;have hE2:Chg (fun _=>False) wB v1:=hE.trans jV fun i hi h=>by cases h
         have HT2:=Hd (Zbf ((HOW.out.chg hE2 fun _ _ h=>h).cs) hI1 hlc);refine Q8 rfl _ _ 61 61 rfl 39 1 24 Fo pX B1 I c1 (ps.length-(I+1)) ([]++(ps.map (·.1)).take I) ((ps.map (·.1)).drop (I+1)) _ rfl rfl hown1 (X2.slice HT2.out) (fun u hu=>dX.out.one u (List.mem_of_mem_drop hu)) (ps.length-1) (by omega) ?_ ?_ ?_
         ·omega
         ·omega
         intro p8 B2 c2 v2 hown2 hor2 jW;go_simp;refine hK.out _ _ ?_ (fun hHeld => ?_)
         ·(trivial)
         clear hK K
         try simp only [Act.put,List.setIfInBounds_toArray,List.set_cons_zero,List.set_cons_succ]
         refine tkH 10 (some 4) ?_;refine wpAnyH_done (by kernel_rfl) ?_ _
         have hg1:∀ g,pX=some g->wB.heap.size<=g:=fun g hg=>by
          rcases pY with e | e
          ·rw [e] at hg; cases hg
          ·rw [e] at hg;injection hg with hg
           exact hg▸hE.size
         have hv2:Chg (fun _=>False) wB v2:=hE2.trans jW fun i hi h=>by have:=hg1 i h; omega
         have hv5:Chg (fun _=>False) w5 v2:=rP.trans hv2 fun _ _ h=>h
         have hg2:∀ g,p8=some g->w5.heap.size<=g:=fun g hg=>by
          rcases hor2 with e | e
          ·have:=hg1 g (e▸hg); have:=rP.size; omega
          ·rw [e] at hg;injection hg with hg
           have:=hE2.size;have:=rP.size;omega
         have hsp:ps=ps.take I++p::ps.drop (I+1):=by
          have h1:=List.take_append_drop I ps;rw [List.drop_eq_getElem_cons rH] at h1;rw [(List.getElem?_eq_some_iff.1 Ac.out.1).2] at h1;exact h1.symm
         have hpe:p.2=row:=of_decide_eq_true HD.out.symm;have hown3:QC v2 39 1 p8 B2 (ps.length-1) c2 ((ps.take I).map (·.1)++(ps.drop (I+1)).map (·.1)):=by rw [List.map_take,List.map_drop]; exact hown2
         have lI:ps.length-1=(ps.take I++ps.drop (I+1)).length:=by rw [List.length_append,List.length_take,List.length_drop]; omega
         have jk:=Hd (dX.out.del hsp lI hown3 hg2 hv5 (Nat.le_trans hcw.size (Nat.le_trans HN.out.chg.size hch.size)))
         have iE:=Hd (show Bag (Qi row (-1) Z) ((ps.take I++ps.drop (I+1)).map (·.2)) from by
          have h1:=HB.out;rw [hsp,List.map_append,List.map_cons,hpe] at h1;rw [List.map_append]
          exact h1.del)
         have lD:=Ab.out.low.Zf hv5 (fun _ _ h=>h) fun _ _ h=>h;have hc6:Chg (fun _=>False) w v2:=bu.trans hv5 fun _ _ h=>h;have hZ:Qi row (sd !true) Z=Qi row (-1) Z:=rfl;rw [hZ] at lD;have hlen:=lI.symm;have hpn:ps.length-1<=k+1:=by omega
         obtain ⟨aK,iF⟩:∃ x,x=ps.take I++ps.drop (I+1):=⟨_,rfl⟩
         rw [<- iF] at jk iE hlen;obtain ⟨ln,hln⟩:∃ x,x=ps.length-1:=⟨_,rfl⟩
         rw [<- hln] at hlen hpn ⊢;clear iF hln lI hZ dX rG HB HR hown3 hsp hpe hg1 hg2 hv2 hv5 HT1 HT2 pY hor2 hown1 hown2 jV jW hE hE2 HOW vV Ab Aa hrow hHeld
         go_wp2_with fail
         all_goals
          refine (zX (by omega) lD).mono ?_;rintro _ w7 ⟨sv,rfl,hset,lF,dY⟩;have dH:=Hd (jk.out.read dY hc6.size);have cK:Chg (fun _=>False) w w7:=hc6.trans dY fun i hi h=>by have:=jk.out.low i h; omega
          have pK:=lF.inv;have hset':=hset;obtain ⟨SA,lG,rfl,_⟩:=hset';have pM:=Hd lF;have HS:=Hd hset;clear hset lD lF jk dY hc6 bu hcw;by_cases he:aK=[]
          ·have vN:=(iE.out.empty pK.t.set).1 (by rw [he]; rfl);have hl0:ln=0:=by rw [<- hlen,he]; rfl
           have hs0:∀ Z:Zs,Z=[]->(Zl (cO Z)).length=0:=fun Z h=>by subst h; rfl
           have hs1:=hs0 _ vN;subst hl0;rw [hs1]
           go_wp2_with fail
           go_roundw
           case rel=>exact ⟨k+1,_,_,_,_,_,_,aK,by omega,by go_num,by rw [hlen],dH,iE,pM.out,by omega,cK⟩
           case measure=>simp [intOf]; omega
          ·obtain ⟨p0,ps0,hps⟩:∃ p l,aK=p::l:=by cases aK with | nil=>exact absurd rfl he | cons p l=>exact ⟨p,l,rfl⟩
           have hl1:0<ln:=by rw [<- hlen,hps]; simp
           have hl2:(ln:Int)≠0:=by omega
           obtain ⟨gn,pO,pQ,vO,pU,hown,c0,hv0,c1⟩:=dH.out.at (j:=0) (p:=p0) (by rw [hps]; rfl);have HBn:=Hd pU;subst pU;have hl3:(0:Int)<(ln:Int):=by omega
           go_wp2_with fail
           go_region_held (fun wx=>wx.cell? ⟨gn,0,none⟩=some (.slice (some ⟨pO,pQ,none⟩) 3 vO)/\wx.cell? ⟨pO,pQ+2*3+2,none⟩=some (.string (str (ZF p0.2)))) (go_keep) (fail)
           have hcd:Chg (fun _=>False) w7 w7.drew:=(Chg.refl _ w7).drew
           go_wp2_with fail
           go_loopw [10,11,12] (fun a bb i wx=>∃ I:Nat,I<=ln/\i = .int .i64 I/\a = .string (str (X0 (ZF p0.2) ((aK.map fun p=>ZF p.2).take I)))/\bb = .string (str (X9 (ZF p0.2) ((aK.map fun p=>ZF p.2).take I)))/\Chg (fun _=>False) w7 wx) (fun a bb i _=>ln-(intOf i).toNat)
           case atStart=>exact ⟨0,Nat.zero_le _,rfl,rfl,rfl,hcd⟩
           case round =>
            obtain ⟨I,hI,rfl,rfl,rfl,hcI⟩:=hrel;by_cases rH:I<ln
            ·have jl:(I:Int)<(ln:Int):=by omega
             obtain ⟨p,fZ⟩:∃ p,aK[I]? = some p:=⟨_,List.getElem?_eq_getElem (by omega)⟩
             obtain ⟨gm,rJ,rM,rO,hBm,_,d0,_,d1⟩:=dH.out.at fZ;injection hBm with hBm
             injection hBm with hBm
             subst hBm;have d0:=hcI.cell d0 fun h=>h;have d1:=hcI.cell d1 fun h=>h;have lH:(aK.map fun p=>ZF p.2)[I]? = some (ZF p.2):=by rw [List.getElem?_map,fZ]; rfl
             have jm:=Hd (Hu (ZF p0.2) _ lH);have jo:=Hd (Hv (ZF p0.2) _ lH);obtain ⟨sx,hsx⟩:∃ x,x=ZF p.2:=⟨_,rfl⟩
             obtain ⟨M,hM⟩:∃ x,x=X0 (ZF p0.2) ((aK.map fun p=>ZF p.2).take I):=⟨_,rfl⟩
             obtain ⟨X,hX⟩:∃ x,x=X9 (ZF p0.2) ((aK.map fun p=>ZF p.2).take I):=⟨_,rfl⟩
             rw [<- hsx] at d1 jm jo;rw [<- hM] at jm ⊢;rw [<- hX] at jo ⊢;clear lH fZ hsx hM hX c0 c1;have eM:Op.bytesLess (str sx).toList (str M).toList=decide (sx<M):=by rw [ZO,ZO,Go.Proofs.bytesLess_eq]
             have eX:Op.bytesLess (str sx).toList (str X).toList=decide (sx<X):=by rw [ZO,ZO,Go.Proofs.bytesLess_eq]
             have eE:((str sx).toList==(str X).toList)=decide (sx=X):=by rw [ZO,ZO]; by_cases h:sx=X <;> simp [h]
             have vQ:∃ D,D=decide (sx<M)/\X0 (ZF p0.2) ((aK.map fun p=>ZF p.2).take (I+1))=if D then sx else M:=⟨_,rfl,by rw [jm.out]; by_cases h:sx<M <;> simp [h]⟩
             obtain ⟨D,hD,dZ⟩:=vQ
             have vR:∃ E1 E2,E1=decide (sx<X)/\E2=decide (sx=X)/\X9 (ZF p0.2) ((aK.map fun p=>ZF p.2).take (I+1))=if (!E1 && !E2) then sx else X:=⟨_,_,rfl,rfl,by
              rw [jo.out];by_cases h1:X<sx
              ·have h2:¬ sx<X:=fun h=>List.lt_irrefl X (List.lt_trans h1 h);have h3:¬ sx=X:=fun h=>List.lt_irrefl X (h▸h1);simp [h1,h2,h3]
              ·by_cases h2:sx<X
               ·simp [h1,h2]
               ·have h3:sx=X:=List.le_antisymm (List.not_lt.1 h1) (List.not_lt.1 h2)
                simp [h1,h3]⟩
             obtain ⟨E1,E2,hE1,hE2,ed⟩:=vR;rw [<- hD] at eM;rw [<- hE1] at eX;rw [<- hE2] at eE;have iX:=Hd dZ;have eG:=Hd ed;clear hD hE1 hE2 dZ ed jm jo;cases D <;> cases E1 <;> cases E2
             all_goals
              go_wp2_with fail
              go_roundw
              case rel=>exact ⟨I+1,by omega,by go_num,by rw [iX.out]; rfl,by rw [eG.out]; rfl,hcI⟩
              case measure=>simp [intOf]; omega
            ·have jl:¬ (I:Int)<(ln:Int):=by omega
             have pV:(aK.map fun p=>ZF p.2).take I=aK.map fun p=>ZF p.2:=List.take_of_length_le (by rw [List.length_map]; omega);rw [pV];have key:=EM pK iE.out (r0:=p0.2) (rest:=ps0.map fun p=>p.2) (by rw [hps]; rfl);rw [List.map_map,List.length_map,hlen] at key;rw [key] at HS ⊢
             have htx:∀ s∈ZF p0.2::aK.map (fun p=>ZF p.2),s.length<=2:=fun s hs=>by
              rcases List.mem_cons.1 hs with rfl | hs
              ·exact (Kz (dH.out.row p0 (by rw [hps]; exact List.mem_cons_self)).2).2
              ·obtain ⟨q,hq,rfl⟩:=List.mem_map.1 hs;exact (Kz (dH.out.row q hq).2).2
             obtain ⟨MN,dZ⟩:∃ x,x=X0 (ZF p0.2) (aK.map fun p=>ZF p.2):=⟨_,rfl⟩
             obtain ⟨MX,ed⟩:∃ x,x=X9 (ZF p0.2) (aK.map fun p=>ZF p.2):=⟨_,rfl⟩
             have hm2:MN.length<=2:=by rw [dZ]; exact htx _ (Wu _ _).1
             have hx2:MX.length<=2:=by rw [ed]; exact htx _ (Wv _ _).1
             have HS2:=Hd (show Zo (fun _=>True) w7 (.slice SA 1 lG) [⟨VG (ln:Int) MN MX,1,0⟩] from by rw [dZ,ed]; exact HS.out);rw [<- dZ,<- ed];clear htx dZ ed key pV HS c0 c1
             go_wp2_with fail
             refine (Su _ _).mono ?_;rintro _ x1 ⟨rfl,g1⟩
             go_wp2_with fail
             refine (Ww _ _).mono ?_;rintro _ x2 ⟨rfl,g2⟩
             go_wp2_with fail
             refine (Ww _ _).mono ?_;rintro _ x3 ⟨rfl,g3⟩;have hcx:Chg (fun _=>False) w7 x3:=((hcI.trans g1 fun _ _ h=>h).trans g2 fun _ _ h=>h).trans g3 fun _ _ h=>h;have hax:=(Chg.refl (fun _=>False) x3).alloc (.cells #[.int .i64 1,.int .i64 (ln:Int),.string ⟨#[]⟩,.int .i64 2,.int .i64 0,.string (str MN),.int .i64 2,.int .i64 0,.string (str MX)] 55);have HRW:=Hd (Cy (cap:=3) (heap_alloc_new x3 (.cells #[.int .i64 1,.int .i64 (ln:Int),.string ⟨#[]⟩,.int .i64 2,.int .i64 0,.string (str MN),.int .i64 2,.int .i64 0,.string (str MX)] 55)) rfl rfl hm2 hx2)
             go_wp2_with fail
             refine (Ht (n:=1) HRW.out (by omega) (by simp [VG])).mono ?_;rintro _ x4 ⟨ub,rfl,⟨ob,bq,rfl,o0,o1⟩,g4⟩;have hc4:Chg (fun _=>False) w7 x4:=(hcx.trans hax fun _ _ h=>h).trans g4 fun _ _ h=>h;have vS:=Hd (one_set (F:=fun _=>True) ((HRW.out.Zf g4).mono fun _ _ _=>trivial) trivial o0 o1 (by omega) (by simp [VG]));clear o0 o1
             go_wp2_with fail
             refine (Ng (HS2.out.Zf hc4) vS.out).mono ?_;rintro _ x5 ⟨rfl,g5⟩;have aZ:=hc4.trans g5 fun _ _ h=>h
             go_wp2_with fail
             go_roundw
             case rel=>exact ⟨k+1,_,_,_,_,_,_,aK,by omega,by go_num,by rw [hlen],Hd (dH.out.Zhi aZ),iE,pM.out.Zf aZ (fun _ _ h=>h) (fun _ _ h=>h),by omega,cK.trans aZ fun _ _ h=>h⟩
             case measure=>simp [intOf]; omega
       ·have hge:¬ (I:Int)<(ps.length:Int):=by omega
        exfalso;have h1:=Aa.out;have h2:=HB.out.cnt row;have h3:row∈ps.map (·.2):=List.count_pos_iff.1 (by omega);obtain ⟨q,hq,e⟩:=List.mem_map.1 h3;obtain ⟨j,hj⟩:=List.getElem?_of_mem hq;exact vV.out j q (by have:=(List.getElem?_eq_some_iff.1 hj).1; omega) hj e
    ·unfold rE
     go_wp2_with fail
     go_roundw
     case rel=>exact ⟨k+1,_,_,Z,own,B,cc,ps,by omega,by go_num,rfl,dX,HB,hA,by omega,bu⟩
     case measure=>simp [intOf]; omega
  ·have hgo:(¬ (k:Int)<(n:Int))\/((k:Int)<(n:Int)/\¬ (k:Int)<30):=by omega
   clear hkn;rcases hgo with l0 | ⟨l0,l1⟩
   all_goals
    go_wp2_with fail
    refine (haw _).mono ?_;rintro _ wz ⟨rfl,hz⟩
    go_wp2_with fail
    go_ret
    exact ⟨rfl,hcw.trans hz fun _ _ h=>h⟩
end Ev
namespace Ev
open Go Go.Proofs
noncomputable section
namespace Aw
def x0:Zb:=(vX 53 12721750682382609111719253287628929560559510350085760694781010853206626624441197245399277313392579635576832)
def x1:Zb:=(vX 78 20443065161098384860209130562291368547662840677452291927971911881341687252473881058453237447322172058619565440678469734118862894936915468778086895837454613355801083904)
def x2:Zb:=(vX 61 1960712239413556518749078970664662811092682352153757563955377504634313096499494328172855002827337622488887490782307077532674649873114338426880)
def x3:Zb:=(vX 86 3150743091357885622466308837191770890642928195303893346220514622984810769437259592429553189335241018369345115602363850948685383196873674042536770842112689124553770998090851246663493133522501199785361408)
def x4:Zb:=(vX 5 500069396323)
def x5:Zb:=(vX 30 284089292896909053021699801486181405582082790347143928726239583268923176)
def x6:Zb:=(vX 112 3414023389634485388421421406248234863078144736112157952970156746106243780406004679508634449555833989572822378237849738628550762131475651691433229655865808966863377391555582772383398797192728574948099330039810609426046489297305892983570824167424)
def x7:Zb:=(vX 137 5486124068793688683404637942034987576354199008750477849261336583201597069684712030235997565764154085455389875117527034485612252647688972274911677225265808465854270267900208612332545375615337698721707722472075578782823217924127446800187588313795416721149865711716056513875765037049810985723554680335761408)
def x8:Zb:=(vX 25 6277101735386680764176071790128604879584176795969512275970)
def b0:Zd:=bC [(vI 0),(vX 0 0),.Za,(vI 0),(vX 0 0),.Za,(vI 0),(vX 0 0),.Za,(vI 0),(vX 0 0),.Za,(vI 0),(vX 0 0),.Za,.Za] 0
def b1:Zd:=bC [(vP 2 0),(vP 0 0)] 0
def b2:Zd:=bC [.Za,(vL 14 0 3),(.iface 186 (vP 0 0))] 0
def b3:Zd:=bC [(vL 128 0 50),(vI 50)] 0
def b4:Zd:=bC [(vP 2 0),(vI 0),(vP 3 0),(vI 0),vT,(vI 50),(vI 1),(vP 16 0),(vP 19 0),(vP 18 0),(vI 0),(vM 20),(vI 0),(vI 0),(vI 0),.Zi,(vX 0 0),.Za,
 (vI 0),(vI 0),.Zi,(vI 0),(vI 0),(vI 0),vF] 0
def b5:Zd:=bC [(vL 242 0 50),(vI 50)] 0
def b6:Zd:=bC [(vP 2 0),(vI 1),(vP 7 0),(vI 0),vT,(vI 50),(vI 1),(vP 130 0),(vP 133 0),(vP 132 0),(vI 0),(vM 134),(vI 0),(vI 0),(vI 0),.Zi,(vX 0 0),.Za,
 (vI 0),(vI 0),.Zi,(vI 0),(vI 0),(vI 0),vF] 0
def b7:Zd:=bC [(vL 356 0 50),(vI 50)] 0
def b8:Zd:=bC [(vP 2 0),(vI 2),(vP 11 0),(vI 0),vT,(vI 50),(vI 1),(vP 244 0),(vP 247 0),(vP 246 0),(vI 0),(vM 248),(vI 0),(vI 0),(vI 0),.Zi,(vX 0 0),.Za,
 (vI 0),(vI 0),.Zi,(vI 0),(vI 0),(vI 0),vF] 0
def b9:Zd:=bO [(vP 4 0),(vP 8 0),(vP 12 0)] 1
def b10:Zd:=bC [(vI 0),(vI 0),(vM 15),(vI 0)] 0
def b11:Zd:=bC [(vM 17),(vI 0)] 0
def b12:Zd:=bC [(vI 0),(vI 3),(vI 0),(vI 0),(vI 0),(vI 0),.Zi,.Zi,.Zi] 0
def b13:Zd:=bZ 50 38707680873383516948918279504135709794145275902319762939253008750918183078068237
def b14:Zd:=bC [(vI 0),(vI 0),(vM 129),(vI 0)] 0
def b15:Zd:=bC [(vM 131),(vI 0)] 0
def b16:Zd:=bC [(vI 1),(vI 3),(vI 0),(vI 0),(vI 0),(vI 0),.Zi,.Zi,.Zi] 0
def b17:Zd:=bC [(vI 0),(vI 0),(vM 243),(vI 0)] 0
def b18:Zd:=bC [(vM 245),(vI 0)] 0
def b19:Zd:=bC [(vI 2),(vI 3),(vI 0),(vI 0),(vI 0),(vI 0),.Zi,.Zi,.Zi] 0
def b20:Zd:=bC [.Za,.Za] 0
def b21:Zd:=bC [(vI 0),(vI 0),(vI 0),(vX 0 0),(vI 0),(vI 0),(vI 0),(vX 0 0),(vI 0),(vI 0),(vI 0),(vX 0 0),(vI 0),(vI 0),(vI 0),(vX 0 0),(vI 0),(vI 0),(vI 0),
 (vX 0 0),(vI 0),(vI 0),(vI 0),(vX 0 0),(vI 0),(vI 0),(vI 0),(vX 0 0),(vI 0),(vI 0),(vI 0),(vX 0 0),(vI 0),(vI 0),(vI 0),(vX 0 0),(vI 0),(vI 0),(vI 0),
 (vX 0 0),(vI 0),(vI 0),(vI 0),(vX 0 0),(vI 0),(vI 0),(vI 0),(vX 0 0),(vI 0),(vI 0),(vI 0),(vX 0 0),(vI 0),(vI 0),(vI 0),(vX 0 0),(vI 0),(vI 0),(vI 0),
 (vX 0 0),(vI 0),(vI 0),(vI 0),(vX 0 0)] 0
def b22:Zd:=bC [(vP 359 0),.Za,(vM 360),(vP 361 0)] 0
def b23:Zd:=bC [(vP 362 0),(vI 0)] 0
def b24:Zd:=bC [(vP 366 0),.Za,(vM 367),(vP 368 0)] 0
def b25:Zd:=bC [(vP 369 0),(vI 0)] 0
def b26:Zd:=bC [(vP 373 0),.Za,(vM 374),(vP 375 0)] 0
def b27:Zd:=bC [(vP 376 0),(vI 0)] 0
def b28:Zd:=bC [(vL 701 0 2),(vL 14 0 3),(.iface 186 (vP 0 0))] 0
def b29:Zd:=bC [(vP 2 0),(vI 0),(vP 3 0),(vI 0),vT,(vI 50),(vI 1),(vP 16 0),(vP 19 0),(vP 18 0),(vI 0),(vM 20),(vI 0),(vI 0),(vI 0),.Zi,(vX 0 0),(vL 547 0 1),
 (vI 1),(vI 1),(vM 551),(vI 0),(vI 0),(vI 0),vF] 0
def b30:Zd:=bC [(vI 0),(vI 3),(vI 1),(vI 1),(vI 0),(vI 0),(vM 553),(vM 554),(vM 555)] 0
def b31:Zd:=bO [(vI 0),(vI 1),(vI 1),vF,x0,(vJ 0)] 6
def b32:Zd:=bZ 33 1606938044258990275541962092341162602522202993782792835301633
def b33:Zd:=bO [(vI 0),(vI 1),(vL 627 0 33),(vI 0),(vI 2),(vL 699 0 33)] 3
def b34:Zd:=bC [(vI 0),(vX 0 0),(vL 1964 0 1),(vI 0),(vX 0 0),(vL 2180 0 1),(vI 0),(vX 0 0),(vL 2260 0 1),(vI 0),(vX 0 0),.Za,(vI 0),(vX 0 0),.Za,
 .Za] 0
def b35:Zd:=bC [(vL 1500 0 0),(vL 14 0 3),(.iface 186 (vP 0 0))] 0
def b36:Zd:=bC [(vL 1943 0 225),(vI 204)] 0
def b37:Zd:=bC [(vP 2 0),(vI 0),(vP 3 0),(vI 0),vT,(vI 225),(vI 1),(vP 16 0),(vP 19 0),(vP 18 0),(vI 1),(vM 20),(vI 1),(vI 0),(vI 0),.Zi,(vX 0 0),(vL 1961 0 0),
 (vI 1),(vI 2),(vM 551),(vI 1),(vI 0),(vI 0),vF] 0
def b38:Zd:=bC [(vL 2163 0 225),(vI 204)] 0
def b39:Zd:=bC [(vP 2 0),(vI 1),(vP 7 0),(vI 0),vT,(vI 225),(vI 1),(vP 130 0),(vP 133 0),(vP 132 0),(vI 1),(vM 134),(vI 1),(vI 0),(vI 0),.Zi,(vX 0 0),.Za,
 (vI 0),(vI 0),.Zi,(vI 0),(vI 0),(vI 0),vF] 0
def b40:Zd:=bC [(vL 2243 0 225),(vI 204)] 0
def b41:Zd:=bC [(vP 2 0),(vI 2),(vP 11 0),(vI 0),vT,(vI 225),(vI 1),(vP 244 0),(vP 247 0),(vP 246 0),(vI 1),(vM 248),(vI 1),(vI 0),(vI 0),.Zi,(vX 0 0),
 .Za,(vI 0),(vI 0),.Zi,(vI 0),(vI 0),(vI 0),vF] 0
def b42:Zd:=bM [((vI 0),(.agg [(vI 0),(vI 1),(vI 0),x1]),0)] 1
def b43:Zd:=bC [(vI 1),(vI 0),(vM 15),(vI 1)] 0
def b44:Zd:=bM [((vI 0),x1,0)] 1
def b45:Zd:=bC [(vM 17),(vI 1)] 0
def b46:Zd:=bM [((.agg [(vI 0),(vI 1),(vI 1)]),(.agg [(vI 0),(vI 0)]),0)] 1
def b47:Zd:=bC [(vI 1),(vI 0),(vM 129),(vI 1)] 0
def b48:Zd:=bC [(vM 131),(vI 1)] 0
def b49:Zd:=bC [(vI 1),(vI 3),(vI 1),(vI 0),(vI 0),(vI 0),.Zi,.Zi,.Zi] 0
def b50:Zd:=bC [(vI 1),(vI 0),(vM 243),(vI 1)] 0
def b51:Zd:=bC [(vM 245),(vI 1)] 0
def b52:Zd:=bC [(vI 2),(vI 3),(vI 1),(vI 0),(vI 0),(vI 0),.Zi,.Zi,.Zi] 0
def b53:Zd:=bM [((vI 1),(vI 1),0)] 1
def b54:Zd:=bM [((vI 1),(vI 1),0),((vI 0),(vI 1),1)] 2
def b55:Zd:=bM [((vI 0),(vP 1226 0),0)] 1
def b56:Zd:=bM [((vI 0),(vI 1),0),((vI 1),(vI 1),1),((vI 2),(vI 1),2)] 3
def b57:Zd:=bC [x1,(vM 1225)] 0
def b58:Zd:=bO [(vI 0),(vI 0),.Za,(vI 0),(vI 0),.Za,(vI 0),(vI 0),.Za] 3
def b59:Zd :=
 bZ 225 85850750097941099802753601835055848230950356798910796247073372084067163611578717184851822150403251378629912955931388727444697425495194092801900239563991797499227440499392521580001254097747579384555002881536567308572010890673184087853524866948991305515311577138760325586255272766343110778984800209021532639636200825128390469751361375413332338594392793233125014155170645400244763536718931850788160853867998931012747582559818970521580298687029790248239996036478076367115799862312612112800746016600217115464931227560822439949
def b60:Zd:=bO [(vI 0),(vI 0),(vI 0),vF,(vX 0 0),(vI 0)] 6
def b61:Zd:=bC [(vL 2421 0 1),.Za] 0
def b62:Zd:=bC [(vI 1),(vI 0),(vI 0),(vX 0 0),(vI 0),(vI 0),(vI 0),(vX 0 0),(vI 0),(vI 0),(vI 0),(vX 0 0),(vI 0),(vI 0),(vI 0),(vX 0 0),(vI 0),(vI 0),(vI 0),
 (vX 0 0),(vI 0),(vI 0),(vI 0),(vX 0 0),(vI 0),(vI 0),(vI 0),(vX 0 0),(vI 0),(vI 0),(vI 0),(vX 0 0),(vI 0),(vI 0),(vI 0),(vX 0 0),(vI 0),(vI 0),(vI 0),
 (vX 0 0),(vI 0),(vI 0),(vI 0),(vX 0 0),(vI 0),(vI 0),(vI 0),(vX 0 0),(vI 0),(vI 0),(vI 0),(vX 0 0),(vI 0),(vI 0),(vI 0),(vX 0 0),(vI 0),(vI 0),(vI 0),
 (vX 0 0),(vI 0),(vI 0),(vI 0),(vX 0 0)] 0
def b63:Zd:=bC [(vP 359 0),(vL 2426 0 1),(vM 360),(vP 361 0)] 0
def b64:Zd:=bC [(vP 362 0),(vI 1)] 0
def b65:Zd:=bO [(vX 1 97),(vI 1),(vX 1 99),(vI 1)] 2
def b66:Zd:=bO [(vX 1 117),(vL 2419 0 2)] 2
def b67:Zd:=bO [(vX 1 117),(vL 2424 0 2),.Za] 3
def b68:Zd:=bC [(vL 2603 0 1),.Za] 0
def b69:Zd:=bC [(vP 366 0),(vL 2608 0 1),(vM 367),(vP 368 0)] 0
def b70:Zd:=bC [(vP 369 0),(vI 1)] 0
def b71:Zd:=bO [(vX 1 117),(vL 2601 0 2)] 2
def b72:Zd:=bO [(vX 1 117),(vL 2606 0 2),.Za] 3
def b73:Zd:=bC [(vL 2772 0 1),.Za] 0
def b74:Zd:=bC [(vP 373 0),(vL 2777 0 1),(vM 374),(vP 375 0)] 0
def b75:Zd:=bC [(vP 376 0),(vI 1)] 0
def b76:Zd:=bO [(vX 1 117),(vL 2770 0 2)] 2
def b77:Zd:=bO [(vX 1 117),(vL 2775 0 2),.Za] 3
def b78:Zd:=bC [(vL 1500 0 2),(vL 14 0 3),(.iface 186 (vP 0 0))] 0
def b79:Zd:=bC [(vL 3064 0 358),(vI 358)] 0
def b80:Zd:=bC [(vP 2 0),(vI 0),(vP 3 0),(vI 0),vT,(vI 358),(vI 1),(vP 16 0),(vP 19 0),(vP 18 0),(vI 1),(vM 20),(vI 1),(vI 0),(vI 0),.Zi,(vX 0 0),(vL 1961 0 1),
 (vI 2),(vI 2),(vM 551),(vI 2),(vI 0),(vI 0),vF] 0
def b81:Zd:=bM [((vI 0),(.agg [(vI 0),(vI 1),(vI 0),x1]),0),((vI 1),(.agg [(vI 1),(vI 1),(vI 0),x3]),1)] 2
def b82:Zd:=bC [(vI 1),(vI 0),(vM 15),(vI 2)] 0
def b83:Zd:=bM [((vI 0),(vP 1226 0),0),((vI 1),(vP 2953 0),1)] 2
def b84:Zd:=bO [(vI 0),(vI 1),(vL 3149 0 121),(vI 0),(vI 2),(vL 3225 0 121),(vI 0),(vI 0),.Za] 3
def b85:Zd:=bO [(vI 0),(vI 1),(vI 2),vF,x2,(vI 1)] 6
def b86:Zd:=bM [((vI 0),(vI 1),0)] 1
def b87:Zd:=bC [x3,(vM 2952)] 0
def b88:Zd :=
 bZ 358 34648429757685036596854752068673216952105314234067702452599465309208107977849184228308579732582637768983170523073072438154054723812610502627450776589551061383778005431583037630256077816221036453111748091390940811598653851438616685019349045322266906250583747209469630351234775037559334210277876893179887216560520214140679340615962884867106806699856335550026194244179818195545548137573752310183406026676386006412118749355042303243280904645788797745804571701378479508002454866717136091818799722872129636490576752487819919122328808608520417740768089933228535833350876368473619616552564318994797977135738250508337818058629736860826277987689209241462091839597511775185185843492874854742309777883467489941777269814021073816636508791153599304072186994975101439884756632048914430280858012125808726786235425904683352808772857500068183736925923996765699094347390124045
def b89:Zd :=
 bZ 121 6120850590976092748377483305493787096064262016104632756702253792994757928034096634179701860805749230946871538231575485188101985603840080257584047696951822041535723748322680415449016218347210947728453117930591782032165495811601263188502726447752506244059758701353462806828466263719674115
def b90:Zd:=bC [(vI 0),(vX 0 0),(vL 3700 0 2),(vI 0),(vX 0 0),(vL 3916 0 2),(vI 0),(vX 0 0),(vL 3996 0 2),(vI 0),(vX 0 0),.Za,(vI 0),(vX 0 0),.Za,
 .Za] 0
def b91:Zd:=bC [(vL 3679 0 379),(vI 358)] 0
def b92:Zd:=bC [(vP 2 0),(vI 0),(vP 3 0),(vI 0),vT,(vI 379),(vI 1),(vP 16 0),(vP 19 0),(vP 18 0),(vI 2),(vM 20),(vI 2),(vI 0),(vI 0),.Zi,(vX 0 0),(vL 3697 0 0),
 (vI 2),(vI 2),(vM 551),(vI 2),(vI 0),(vI 0),vF] 0
def b93:Zd:=bC [(vL 3899 0 379),(vI 358)] 0
def b94:Zd:=bC [(vP 2 0),(vI 1),(vP 7 0),(vI 0),vT,(vI 379),(vI 1),(vP 130 0),(vP 133 0),(vP 132 0),(vI 2),(vM 134),(vI 2),(vI 0),(vI 0),.Zi,(vX 0 0),.Za,
 (vI 0),(vI 0),.Zi,(vI 0),(vI 0),(vI 0),vF] 0
def b95:Zd:=bC [(vL 3979 0 379),(vI 358)] 0
def b96:Zd:=bC [(vP 2 0),(vI 2),(vP 11 0),(vI 0),vT,(vI 379),(vI 1),(vP 244 0),(vP 247 0),(vP 246 0),(vI 2),(vM 248),(vI 2),(vI 0),(vI 0),.Zi,(vX 0 0),
 .Za,(vI 0),(vI 0),.Zi,(vI 0),(vI 0),(vI 0),vF] 0
def b97:Zd:=bM [((vI 0),x1,0),((vI 1),x3,1)] 2
def b98:Zd:=bC [(vM 17),(vI 2)] 0
def b99:Zd:=bM [((.agg [(vI 0),(vI 1),(vI 1)]),(.agg [(vI 0),(vI 0)]),0),((.agg [(vI 0),(vI 1),(vI 2)]),(.agg [(vI 1),(vI 1)]),1)] 2
def rQ:Zd:=bC [(vI 1),(vI 0),(vM 129),(vI 2)] 0
def rT:Zd:=bC [(vM 131),(vI 2)] 0
def rU:Zd:=bC [(vI 1),(vI 0),(vM 243),(vI 2)] 0
def rV:Zd:=bC [(vM 245),(vI 2)] 0
def Lu:Zd :=
 bZ 379 292450614112511644070506266937545488954584756431927392965785116160362858076610849554494507876523333260148161310572875008059293021866254541704449083205130431232193537937502261406665412012248807348359347332387354543902897742247467679007595760202475163940072428574974564692826269638608448482831641008510063785222101663598109497169182402754193368822599588710430803687753442932999794728444378699380368408255044847228933277242877102383763998035072874230633351368827005737768342002537249510720831474202851938705790294659563059736302907058535089266233094542105063629628801842698001470341333156097799164702772216565689885069075643016550249546799304793151151757819302284065730259220171953352504086224277487221730401636176112899411606559787389124827447831584910625319963054545535327857276610893158776333728794990226926373924512444841199985057716644011673704249866956785348914640587301468203315945959063565
def PG:Zd:=bO [x0,x2] 1
def Ad:Zd:=bM [((vX 1 118),(vP 5256 0),0)] 1
def mR:Zd:=bC [(vI 2),(vI 0),(vI 0),(vX 0 0),(vI 0),(vI 0),(vI 0),(vX 0 0),(vI 0),(vI 0),(vI 0),(vX 0 0),(vI 0),(vI 0),(vI 0),(vX 0 0),(vI 0),(vI 0),(vI 0),
 (vX 0 0),(vI 0),(vI 0),(vI 0),(vX 0 0),(vI 0),(vI 0),(vI 0),(vX 0 0),(vI 0),(vI 0),(vI 0),(vX 0 0),(vI 0),(vI 0),(vI 0),(vX 0 0),(vI 0),(vI 0),(vI 0),
 (vX 0 0),(vI 0),(vI 0),(vI 0),(vX 0 0),(vI 0),(vI 0),(vI 0),(vX 0 0),(vI 0),(vI 0),(vI 0),(vX 0 0),(vI 0),(vI 0),(vI 0),(vX 0 0),(vI 0),(vI 0),(vI 0),
 (vX 0 0),(vI 0),(vI 0),(vI 0),(vX 0 0)] 0
def Ae:Zd:=bC [(vP 4089 0),(vL 2426 0 1),(vM 360),(vP 361 0)] 0
def Af:Zd:=bC [(vP 362 0),(vI 2)] 0
def vY:Zd:=bC [(vL 4088 0 1),(vL 4777 0 1)] 0
def Ve:Zd:=bO [(vX 1 110),x4,(vX 0 0)] 3
def Vf:Zd:=bO [(vI 1),(vX 1 117),.Za,.Za,.Za,.Za,.Za,.Za] 8
def Vg:Zd:=bO [(vX 1 110),(vI 1)] 2
def vZ:Zd:=bO [(vX 1 118),x5,(vI 7),(vX 0 0),.Za,.Za,.Za,.Za,(vL 4176 0 1),(vL 4185 0 1),(vL 4529 0 1)] 11
def wh:Zd:=bO [(vL 5230 0 2)] 1
def Fp:Zd:=bO [x4,(vI 0)] 2
def wm:Zd:=bC [(vP 5281 0),(vL 5267 0 1),(vM 5272)] 0
def wo:Zd:=bO [(vX 1 117),(vL 5265 0 2)] 2
def Fq:Zd:=bM [((vX 1 117),.Za,0)] 1
def wu:Zd:=bC [(vI 7),(vX 0 0),.Za,.Za,.Za,.Za,(vL 4861 0 1),(vL 4870 0 1),(vL 5254 0 1),(vL 5284 0 1),(vL 5234 0 1),.Za,(vP 5286 0),
 .Zp,.Zp] 0
def wE:Zd:=bC [(vI 1),(vX 1 117),.Za,.Za,.Za,.Za,.Za,.Za,(vL 5230 0 2),.Za,.Za,.Za,.Zp,.Zp,.Zp] 0
def wF:Zd:=bO [(vP 5282 0)] 1
def wG:Zd:=bC [.Za,(vL 5250 0 1),(vM 5285)] 0
def Ag:Zd:=bM [((vX 1 118),(vP 6564 0),0)] 1
def Ah:Zd:=bC [(vP 5397 0),(vL 2608 0 1),(vM 367),(vP 368 0)] 0
def Ai:Zd:=bC [(vP 369 0),(vI 2)] 0
def wH:Zd:=bC [(vL 5396 0 1),(vL 6085 0 1)] 0
def wI:Zd:=bO [(vX 1 118),x5,(vI 7),(vX 0 0),.Za,.Za,.Za,.Za,(vL 5484 0 1),(vL 5493 0 1),(vL 5837 0 1)] 11
def wJ:Zd:=bO [(vL 6538 0 2)] 1
def wK:Zd:=bC [(vP 6589 0),(vL 6575 0 1),(vM 6580)] 0
def wL:Zd:=bO [(vX 1 117),(vL 6573 0 2)] 2
def wM:Zd:=bC [(vI 7),(vX 0 0),.Za,.Za,.Za,.Za,(vL 6169 0 1),(vL 6178 0 1),(vL 6562 0 1),(vL 6592 0 1),(vL 6542 0 1),.Za,(vP 6594 0),
 .Zp,.Zp] 0
def wN:Zd:=bC [(vI 1),(vX 1 117),.Za,.Za,.Za,.Za,.Za,.Za,(vL 6538 0 2),.Za,.Za,.Za,.Zp,.Zp,.Zp] 0
def wO:Zd:=bO [(vP 6590 0)] 1
def wP:Zd:=bC [.Za,(vL 6558 0 1),(vM 6593)] 0
def Aj:Zd:=bM [((vX 1 118),(vP 7861 0),0)] 1
def Ak:Zd:=bC [(vP 6694 0),(vL 2777 0 1),(vM 374),(vP 375 0)] 0
def Am:Zd:=bC [(vP 376 0),(vI 2)] 0
def wQ:Zd:=bC [(vL 6693 0 1),(vL 7382 0 1)] 0
def wR:Zd:=bO [(vX 1 118),x5,(vI 7),(vX 0 0),.Za,.Za,.Za,.Za,(vL 6781 0 1),(vL 6790 0 1),(vL 7134 0 1)] 11
def wS:Zd:=bO [(vL 7835 0 2)] 1
def wT:Zd:=bC [(vP 7886 0),(vL 7872 0 1),(vM 7877)] 0
def wU:Zd:=bO [(vX 1 117),(vL 7870 0 2)] 2
def wV:Zd:=bC [(vI 7),(vX 0 0),.Za,.Za,.Za,.Za,(vL 7466 0 1),(vL 7475 0 1),(vL 7859 0 1),(vL 7889 0 1),(vL 7839 0 1),.Za,(vP 7891 0),
 .Zp,.Zp] 0
def wW:Zd:=bC [(vI 1),(vX 1 117),.Za,.Za,.Za,.Za,.Za,.Za,(vL 7835 0 2),.Za,.Za,.Za,.Zp,.Zp,.Zp] 0
def xe:Zd:=bO [(vP 7887 0)] 1
def xg:Zd:=bC [.Za,(vL 7855 0 1),(vM 7890)] 0
def Ao:Zd:=bC [(vL 8376 0 563),(vI 563)] 0
def Ap:Zd:=bC [(vP 2 0),(vI 0),(vP 3 0),(vI 0),vT,(vI 563),(vI 1),(vP 16 0),(vP 19 0),(vP 18 0),(vI 2),(vM 20),(vI 2),(vI 0),(vI 0),.Zi,(vX 0 0),(vL 3697 0 1),
 (vI 3),(vI 2),(vM 551),(vI 3),(vI 0),(vI 0),vF] 0
def Rh:Zd:=bM [((vI 0),(.agg [(vI 0),(vI 1),(vI 0),x1]),0),((vI 1),(.agg [(vI 1),(vI 1),(vI 0),x3]),1),((vI 2),(.agg [(vI 2),(vI 1),(vI 0),x7]),2)] 3
def mU:Zd:=bC [(vI 1),(vI 0),(vM 15),(vI 3)] 0
def Uv:Zd:=bM [((vI 0),(vP 1226 0),0),((vI 1),(vP 2953 0),1),((vI 2),(vP 8265 0),2)] 3
def Aq:Zd:=bO [(vI 0),(vI 1),(vL 8461 0 172),(vI 0),(vI 2),(vL 8537 0 172),(vI 0),(vI 0),.Za] 3
def xh:Zd:=bO [(vI 0),(vI 1),(vI 3),vF,x6,(vI 2)] 6
def Uw:Zd:=bC [x7,(vM 8264)] 0
def Ar:Zd :=
 bZ 563 4461602222316868967332862690901365226801389257376444293766170904353918628820283045476791995958210303123655466536408791804266693221772897635995216234641396140368462160384550575211855617218607446215010333530659053193538050059463952349949937728804555488531784215731908103312027864588837795918510108455828560462802979540794729319704055357013392973313384216615433807131785089458039490060088247632407879965965238215562926974393709679153532081331118165999303796670447738131621093485476744842839465567071928809967933069684824827458674748896337620552086907003656930684504976913099158324437427658937751104843724158664202891614465382679977071609842633519860609438312513916901342551610628469128789348716615205439155930281517893295880829175385028712863119499766279669580042519659158667029810629806031169154635218828616802544921021118036084066259638776918581395385849671852631626981273030502934363312961201268831225906970548512309482057375600121131929891998156681686673204150103189785175722416959333409741947148757892143284471656430654923206198612495153817155598913796929925586558641274261676824981406023640164395499036690256930305561441587449331374570607281870785974582248302545468536452484975161817377289871074304006782807804427839903001661335575679825136069535963810633042047092217564881807116767031302330701752989053901547258095082508648461
def mV:Zd :=
 bZ 172 10657722567336344660180324244252169908983478678315767402457921035736041686532360589576361952810234459470555813641293817756430887207849714397794099388363976681745778542057746915237163032206932420886381864266133558560829844684142775606877300185421032213324993067349101663227710622495574776146416382200691744369855739731675494134801816093564981990053195102643614473638739213023414927631581443
def p9:Zd:=bC [(vI 0),(vX 0 0),(vL 9012 0 3),(vI 0),(vX 0 0),(vL 9228 0 3),(vI 0),(vX 0 0),(vL 9308 0 3),(vI 0),(vX 0 0),.Za,(vI 0),(vX 0 0),.Za,
 .Za] 0
def rW:Zd:=bC [(vL 8991 0 584),(vI 563)] 0
def rZ:Zd:=bC [(vP 2 0),(vI 0),(vP 3 0),(vI 0),vT,(vI 584),(vI 1),(vP 16 0),(vP 19 0),(vP 18 0),(vI 3),(vM 20),(vI 3),(vI 0),(vI 0),.Zi,(vX 0 0),(vL 9009 0 0),
 (vI 3),(vI 2),(vM 551),(vI 3),(vI 0),(vI 0),vF] 0
def r9:Zd:=bC [(vL 9211 0 584),(vI 563)] 0
def si:Zd:=bC [(vP 2 0),(vI 1),(vP 7 0),(vI 0),vT,(vI 584),(vI 1),(vP 130 0),(vP 133 0),(vP 132 0),(vI 3),(vM 134),(vI 3),(vI 0),(vI 0),.Zi,(vX 0 0),.Za,
 (vI 0),(vI 0),.Zi,(vI 0),(vI 0),(vI 0),vF] 0
def sj:Zd:=bC [(vL 9291 0 584),(vI 563)] 0
def Au:Zd:=bC [(vP 2 0),(vI 2),(vP 11 0),(vI 0),vT,(vI 584),(vI 1),(vP 244 0),(vP 247 0),(vP 246 0),(vI 3),(vM 248),(vI 3),(vI 0),(vI 0),.Zi,(vX 0 0),
 .Za,(vI 0),(vI 0),.Zi,(vI 0),(vI 0),(vI 0),vF] 0
def PH:Zd:=bM [((vI 0),x1,0),((vI 1),x3,1),((vI 2),x7,2)] 3
def sD:Zd:=bC [(vM 17),(vI 3)] 0
def PJ:Zd:=bM [((.agg [(vI 0),(vI 1),(vI 1)]),(.agg [(vI 0),(vI 0)]),0),((.agg [(vI 0),(vI 1),(vI 2)]),(.agg [(vI 1),(vI 1)]),1),((.agg [(vI 0),(vI 1),(vI 3)]),
 (.agg [(vI 2),(vI 2)]),2)] 3
def sG:Zd:=bC [(vI 1),(vI 0),(vM 129),(vI 3)] 0
def sI:Zd:=bC [(vM 131),(vI 3)] 0
def sJ:Zd:=bC [(vI 1),(vI 0),(vM 243),(vI 3)] 0
def sK:Zd:=bC [(vM 245),(vI 3)] 0
def PK:Zd :=
 bZ 584 28330435887867927798340893461431596905552639326055521857053604898129722651023065958346484459525520777628896749550169261497326987712314968774583153917459365003643968572798722072610955225695237698448723766348264908904333343987512612312427032990090344830767314381850486365873167831092867718821970754340078934538624836600213063635420971867190794953900055316166400075550744565122453611034233593810244709100334098708126336089912131243878058935460495880840929569006844971978454196404426502248915505373403465643094854876025398147246786237701180994634717402483052263660246480207033133653680444421797910401471199581686413795989667960583668817560144145579655345955686688588165263566144681341421517389794941509125307170558206711205138966345950038781680337636270082157597379617785177176159792612588215187065444996116913113496889056848983562787224081748174483793698820738894295280249416407716335544506390527236393367557708712923798723208149658842668870139119130314413006815433429288688991945959179965029592901105239604094047311769466130315939067871998136887653135143985886632779840686327350989088549234083457292078980364491609701765427261382635924859262510131639301305280358521048209766197440161324917239659443045658315690446331981873354091545575766687176523030279525407637273789242355624611868843257158395787018005278892802933564421734645131433784455908513469819326174201331604236059691328033909637133
def Tn:Zd:=bO [x0,x2,x6] 1
def xk:Zd:=bC [(vI 3),(vI 0),(vI 0),(vX 0 0),(vI 0),(vI 0),(vI 0),(vX 0 0),(vI 0),(vI 0),(vI 0),(vX 0 0),(vI 0),(vI 0),(vI 0),(vX 0 0),(vI 0),(vI 0),(vI 0),
 (vX 0 0),(vI 0),(vI 0),(vI 0),(vX 0 0),(vI 0),(vI 0),(vI 0),(vX 0 0),(vI 0),(vI 0),(vI 0),(vX 0 0),(vI 0),(vI 0),(vI 0),(vX 0 0),(vI 0),(vI 0),(vI 0),
 (vX 0 0),(vI 0),(vI 0),(vI 0),(vX 0 0),(vI 0),(vI 0),(vI 0),(vX 0 0),(vI 0),(vI 0),(vI 0),(vX 0 0),(vI 0),(vI 0),(vI 0),(vX 0 0),(vI 0),(vI 0),(vI 0),
 (vX 0 0),(vI 0),(vI 0),(vI 0),(vX 0 0)] 0
def PM:Zd:=bO [(vI 1),(vI 1),(vX 0 0),(vI 1),(vI 1),(vX 0 0)] 3
def PN:Zd:=bO [(vI 1),(vI 1),(vX 0 0),(vI 1),(vI 2),(vX 0 0)] 3
def mW:Zd:=bO [(vI 1),(vI 2),(vX 0 0)] 3
def Av:Zd:=bC [(vP 2 0),(vI 2),(vP 11 0),(vI 0),vT,(vI 584),(vI 1),(vP 244 0),(vP 247 0),(vP 246 0),(vI 3),(vM 248),(vI 3),(vI 0),(vI 0),.Zi,(vX 0 0),
 (vL 10370 0 1),(vI 1),(vI 1),(vM 10374),(vI 0),(vI 0),(vI 0),vF] 0
def xm:Zd:=bC [(vI 2),(vI 3),(vI 2),(vI 2),(vI 2),(vI 3),(vM 10376),(vM 10377),(vM 10378)] 0
def Ay:Zd:=bO [(vI 2),(vI 0),(vL 10450 0 33),(vI 2),(vI 1),(vL 10521 0 33),(vI 0),(vI 0),.Za] 3
def Az:Zd:=bO [(vI 2),(vI 1),(vI 1),vT,(vX 1 49),(vJ 0)] 6
def mX:Zd:=bZ 33 1606938044258990275803298950136443342471519425256130112127489
def xn:Zd:=bM [((vI 0),(.agg [(vI 0),(vI 1),(vI 0),x1]),0),((vI 1),(.agg [(vI 1),(vI 1),(vI 0),x3]),1),((vI 2),(.agg [(vI 2),(vI 1),(vI 0),x7]),2),((vI 3),
 (.agg [(vI 3),(vI 2),(vI 2),x8]),3)] 4
def xq:Zd:=bM [((vI 0),x1,0),((vI 1),x3,1),((vI 2),x7,2),((vI 3),x8,3)] 4
def xu:Zd:=bM [((.agg [(vI 0),(vI 1),(vI 1)]),(.agg [(vI 0),(vI 0)]),0),((.agg [(vI 0),(vI 1),(vI 2)]),(.agg [(vI 1),(vI 1)]),1),((.agg [(vI 0),(vI 1),(vI 3)]),
 (.agg [(vI 2),(vI 2)]),2),((.agg [(vI 2),(vI 1),(vI 1)]),(.agg [(vI 3),(vJ 0)]),3)] 4
def xw:Zd :=
 bZ 706 27009097740359415128432377222136051684277189733185318236012612022053096602987091206349426902458125967557986061886852421139118011672587690777186127181354206251588593608366907538021048143622320298477653547342176327944784795066121804344660016436679029238538807577302262449652219335483090183489410925624482028807043344773418780722031440872120699880423236292410361192756307816476656802211731394200261238678728187935497567679623004404132113665090286097809336687857322485889492223525744092610715360619802567863768865447705754399005420108901466834731417802979286409854887711791905525230611113571752249451188964067314721767475843825553621218209042641586191074980525312613734825795129995463703164113731071259845546212854301510218143130324839106404236049794549188560902341163378292509864598676013142307130946343237742684123487534536579317970497205158426308012774800941362380779745122383877048218732214780549997183669168942196273090190039405923504981952988132312521447569769137362191990075350097208089637953345028996788759738667177902665637043369807713331657299715916933722096866095554444751635784782948122090574816759656113579738880952680622673140201229770493673545762814517591856598930667796256560877111782655868390164135058518365595081873459951942882721176421711688994162313566426227124861959543714082527645037884829561104793840848814422412605244744131009712612742615206438878131985704455018210336298808463312319299026892158031163952167933279394458082738477120592415866959339230109232416084033583227957484242548537340901357872629163585045796859059029270936643551419288422923329066239596783721375167356249937712485988324153323400585881416914232523613592112453192888776232991955682598252969997
def p0:Ent:=⟨97,[(vX 30 284089292896909053021699801486181405582082790347143928726239583268923176)],
 [],
 0,(.tuple [(.agg [(vI 7),(vX 0 0),.Za,.Za,.Za,.Za,(vL 83 0 1),(vL 92 0 1)]),(vI 0),(vI 0)]),
 [(83,bO [(vX 1 110),(vX 5 500069396323),(vX 0 0)] 3),(92,bO [(vI 1),(vX 1 117),.Za,.Za,.Za,.Za,.Za,.Za] 8)],165⟩
def PL:List (Nat×Orc):=[(97,upO [p0])]
def BP:YI:={ fn:=fun f=>fnT.get f,Zf:=Vt,reg:=fun _ _=>none,orc:=fun f=>(Z9 (OL++PL) .lf).get f }
end Aw
end
end Ev
end Go.Proofs.YtheflbaejhlboaaGreatDoor
