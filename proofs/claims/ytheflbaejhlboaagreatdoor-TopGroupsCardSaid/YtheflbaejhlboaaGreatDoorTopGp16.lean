/- Lemmas for a law of confluencetop. -/
import Derived.Test.YtheflbaejhlboaaGreatDoorTopGp15
import Derived.ChangeKeysEq
set_option linter.all false
set_option maxHeartbeats 16000000
set_option maxRecDepth 1000000
namespace Go.Proofs.YtheflbaejhlboaaGreatDoor
open Tryz
section
open Go
theorem tkE {P:Program} {ops:Array Oper} {Q:Exit->Act->World->Prop} {md:Region.Mode} {S:World->Prop} {I:List Nat} (i:Nat) (d:Option Tmp) {v:Value} {oi:Oper} {fuel:Nat} {listed:Array Bool} {a a':Act} {w:World} (h:XV P md ops Q S I fuel (listed.setIfInBounds i true) a' w) (iN:i∈I:=by decide) (hi:ops[i]? = some oi:=by rfl) (hd:oi.dst=d:=by rfl) (hy:YieldsIf P ops S oi v a:=by refine .inl ⟨by rfl,?_⟩; intro wx hSw; go_simp; try (with_reducible rfl)) (ha:a.put d v=a':=by simp only [Act.put,List.setIfInBounds_toArray,List.set_cons_zero,List.set_cons_succ]; rfl)
  (hs:Region.noSelect ops=true:=by kernel_rfl) (hf:Region.free md ops listed i=true:=by kernel_rfl) (hr:(Region.ready md ops listed).contains i=true:=by kernel_rfl)
  (hQ:∀ c a w,Q (.panic c) (a.put d v) w->Q (.panic c) a w:=by exact fun _ _ _ h=>h) (hS:S w:=by assumption):XV P md ops Q S I (fuel+1) listed a w:=by
 subst ha;exact Zj9 d iN hi hd hs hf hr hQ hy hS h
end
namespace Ev
open Go Go.Proofs Go.RowKit
theorem ZdP {w:World} {rb len:Nat} {row:List Vl} {u:Bool} (h:Zm (fun b=>b=rb) w (.slice (some ⟨rb,0,none⟩) len len) row) (hx:Sc u row):rb<w.heap.size:=by
 obtain ⟨A,cap,e,_,_,h3⟩:=h
 have hl:0<row.length:=by
  cases u
  ·obtain ⟨n,m,s,rfl,_⟩:=hx;simp
  ·obtain ⟨n,m,rfl,_⟩:=hx;simp
 obtain ⟨b,off,e2,hb,hlt,_⟩:=h3 hl;injection e with e3
 rw [e2] at e3;injection e3 with e3
 injection e3 with e3
 subst e3;exact hlt
theorem ZdQ:∀ b∈V4.te,∀ w,(S1 [] 0 0 (by decide) (by decide)).Q4 b (fun _=>False) w (.slice none 0 0):=by
 intro b hb w;have hb:b∈[1,2]:=hb;have h:Sm []/\Zp (fun _=>False) w (.slice none 0 0) (Zi []):=⟨Bd.nil.sm (by omega),Zp.Xt _ _⟩
 simp only [List.mem_cons,List.not_mem_nil,or_false] at hb;rcases hb with rfl | rfl <;> exact h
theorem Ziz:∀ b∈V4.tm,∀ w c,(S1 [] 0 0 (by decide) (by decide)).Xg b (fun _=>False) w (.map #[] c):=by
 intro b hb w c;have hb:b∈[3]:=hb;simp only [List.mem_cons,List.not_mem_nil,or_false] at hb;subst hb;exact Wo.empty _ _ _ _ c
structure LD (wr w2:World) (zb rb len:Nat) (rem:Bool) (row:List Vl):Prop where
 cell:w2.heap[zb]? = some (.cells #[.string PH,.slice (some ⟨rb,0,none⟩) len len,.bool rem] 41 (0,0))
 rw:Zm (fun b=>b=rb) w2 (.slice (some ⟨rb,0,none⟩) len len) row
 ok:Zbk row
 r0:wr.heap.size<=rb
 z0:wr.heap.size<=zb
 ne:zb≠rb
 lt:rb<w2.heap.size
 chg:Chg (fun _=>False) wr w2
theorem Zl1 {wr:World} {rem:Bool} {C:Nat->Nat->Nat->List Vl->World->Prop} {Q:Prop} (f:(∀ zb rb len row W,LD wr W zb rb len rem row->C zb rb len row W)->Q) (h:∀ zb rb len row W,LD wr W zb rb len rem row->C zb rb len row W):Q:=f h
theorem ZiA {wr wA:World} {rb len:Nat} {rem:Bool} {row:List Vl} (hc:Chg (fun _=>False) wr wA) (hrb:wr.heap.size<=rb) (hrow:Zm (fun b=>b=rb) wA (.slice (some ⟨rb,0,none⟩) len len) row) (eT:Sc true row) :
  LD wr (wA.alloc (.cells #[.string ⟨#[117]⟩,.slice (some ⟨rb,0,none⟩) len len,.bool rem] 41)) wA.heap.size rb len rem row:=by
 have hlt:=ZdP hrow eT;have hs:=hc.size;have ha:=(Chg.refl (fun _=>False) wA).alloc (.cells #[.string ⟨#[117]⟩,.slice (some ⟨rb,0,none⟩) len len,.bool rem] 41);exact ⟨heap_alloc_new wA _,hrow.Zf ha,eT,hrb,hs,by omega,Nat.lt_of_lt_of_le hlt ha.size,hc.alloc _⟩
theorem ZiB {wr wA:World} {rb len:Nat} {rem:Bool} {row:List Vl} {x y z:Value} (hc:Chg (fun _=>False) (wr.drew.alloc (.cells #[x,y,z] 41)) wA) (hrb:(wr.drew.alloc (.cells #[x,y,z] 41)).heap.size<=rb) (hrow:Zm (fun b=>b=rb) wA (.slice (some ⟨rb,0,none⟩) len len) row) (eT:Sc true row) :
  LD wr (((wA.setCell ⟨wr.heap.size,0,none⟩ (.string ⟨#[117]⟩)).setCell ⟨wr.heap.size,1,none⟩ (.slice (some ⟨rb,0,none⟩) len len)).setCell ⟨wr.heap.size,2,none⟩ (.bool rem)) wr.heap.size rb len rem row:=by
 have hlt:=ZdP hrow eT;have hd:Chg (fun _=>False) wr wr.drew:=(Chg.refl _ wr).drew;have e1:(wr.drew.alloc (.cells #[x,y,z] 41)).heap.size=wr.heap.size+1:=Array.size_push _;rw [e1] at hrb;have hz:wA.heap[wr.heap.size]? = some (.cells #[x,y,z] 41 (0,0)):=hc.heap (heap_alloc_new wr.drew _) fun h=>h
 have h2:Chg (fun k=>k=wr.heap.size) wA (((wA.setCell ⟨wr.heap.size,0,none⟩ (.string ⟨#[117]⟩)).setCell ⟨wr.heap.size,1,none⟩ (.slice (some ⟨rb,0,none⟩) len len)).setCell ⟨wr.heap.size,2,none⟩ (.bool rem)) :=
  Chg.Qb (T:=fun k=>k=wr.heap.size) (Chg.Qb (T:=fun k=>k=wr.heap.size) (Chg.Qb (T:=fun k=>k=wr.heap.size) (Chg.refl _ _) (D:=wr.heap.size) rfl 0 _) (D:=wr.heap.size) rfl 1 _) (D:=wr.heap.size) rfl 2 _
 refine ⟨?_,hrow.chg h2 fun b hb _=>by omega,eT,by omega,Nat.le_refl _,by omega,Nat.lt_of_lt_of_le hlt h2.size,(((hd.alloc _).trans hc fun _ _ h=>h).trans h2 fun i hi e=>by omega)⟩;rw [heap_setCell_same _ _ 2 _ _ _ (by rw [heap_setCell_same _ _ 1 _ _ _ (by rw [heap_setCell_same _ _ 0 _ _ _ hz])])];rfl
theorem EZ {w:World} {e:TypeId} {k:Nat} {own:Option Nat} {A:Option Addr} {n cap:Nat} {xs:List Value} (h:Qw w e k own A n cap xs):∀ g,own=some g->g<w.heap.size:=fun g hg=>by
 rcases h.2.2 with ⟨h1,_⟩ | ⟨g',cur,h1,_,h2,_⟩
 ·rw [h1] at hg; cases hg
 ·rw [h1] at hg;injection hg with hg
  subst hg;exact lt_of_block h2
def Qg (ps:List (Int×Int)):List Value:=ps.flatMap fun p=>[.int .i64 p.1,.int .i64 p.2]
theorem YS (ps:List (Int×Int)):(Qg ps).length=ps.length*2:=Dv _ 2 (fun _=>rfl) ps
theorem UF {ps:List (Int×Int)} {j:Nat} {p:Int×Int} (h:ps[j]? = some p):(Qg ps)[j*2]? = some (.int .i64 p.1)/\(Qg ps)[j*2+1]? = some (.int .i64 p.2) :=
 ⟨by have:=Wi (fun p:Int×Int=>[(.int .i64 p.1:Value),.int .i64 p.2]) 2 (fun _=>rfl) ps j 0 p h (by decide); rw [Nat.add_zero] at this; exact this,by have:=Wi (fun p:Int×Int=>[(.int .i64 p.1:Value),.int .i64 p.2]) 2 (fun _=>rfl) ps j 1 p h (by decide); exact this⟩
theorem Nn (ps:List (Int×Int)):∀ u∈Qg ps,u.oneCell'=true:=fun u hu=>by
 simp only [Qg,List.mem_flatMap,List.mem_cons,List.not_mem_nil,or_false] at hu;obtain ⟨p,hp,rfl | rfl⟩:=hu <;> rfl
theorem Pg:∀ (ps:List (Int×Int)) (n:Nat),(Qg ps).take (n*2)=Qg (ps.take n)
 | [],n=>by simp [Qg]
 | p::ps,0=>by simp [Qg]
 | p::ps,n+1=>by
  have ih:=Pg ps n;rw [List.take_succ_cons,Nat.add_mul,Nat.one_mul];show (Value.int .i64 p.1::Value.int .i64 p.2::Qg ps).take (n*2+2)=Value.int .i64 p.1::Value.int .i64 p.2::Qg (ps.take n);rw [List.take_succ_cons,List.take_succ_cons,ih]
theorem Ph:∀ (ps:List (Int×Int)) (n:Nat),(Qg ps).drop (n*2)=Qg (ps.drop n)
 | [],n=>by simp [Qg]
 | p::ps,0=>by simp
 | p::ps,n+1=>by
  have ih:=Ph ps n;rw [List.drop_succ_cons,Nat.add_mul,Nat.one_mul];show (Value.int .i64 p.1::Value.int .i64 p.2::Qg ps).drop (n*2+2)=_;rw [List.drop_succ_cons,List.drop_succ_cons,ih]
structure Rows (lo:Nat) (w:World) (H T:Nat->Prop) (own:Option Nat) (B:Option Addr) (cc:Nat) (ps:List (Int×Int)):Prop where
 ok:Qw w 56 2 own B ps.length cc (Qg ps)
 sm:Small ps
 ap:∀ g,own=some g->¬ H g/\¬ T g/\lo<=g
 low:∀ j,H j->lo<=j
theorem Rows.Zl2 {w w':World} (hc:Chg (fun _=>False) w w'):Rows w.heap.size w' (TT w) (TT w) none none 0 [] :=
 ⟨Qw.Xt _ _ _ _,fun p h=>(by cases h),fun g h=>(by cases h),fun j h=>h⟩
theorem Fu:ZaR prog 52 52 56 2 16:=by
 obtain ⟨i,hi,hz,hs,hb⟩:=info_parts (P:=prog) (e:=56) (z := .agg #[.int .i64 0,.int .i64 0]) (size:=2) (bytes:=16) (by kernel_rfl);exact ⟨underlying52,⟨_,underlying52⟩,⟨i,_,hi,hz,hs,hb,rfl⟩,by decide⟩
theorem CI (w:World) (x y:Value) (t:TypeId):CsK (w.alloc (.cells #[x,y] t)) (fun b=>b=w.heap.size) 2 (some ⟨w.heap.size,0,none⟩) 1 [x,y]:=by
 have h:=heap_alloc_new w (.cells #[x,y] t)
 exact ⟨rfl,fun _=>⟨_,0,rfl,rfl,lt_of_block h,fun j u hu=>by
  match j,hu with
  | 0,hu=>simp at hu; subst hu; rw [cell_of_row _ _ _ _ _ _ h]; rfl
  | 1,hu=>simp at hu; subst hu; rw [cell_of_row _ _ _ _ _ _ h]; rfl
  | j+2,hu=>simp at hu⟩⟩
theorem Rows.upd {lo:Nat} {wr w2 w5:World} {H T:Nat->Prop} {own:Option Nat} {B:Option Addr} {cc zb rb len:Nat} {ps:List (Int×Int)} {rem:Bool} {row:List Vl} (h:Rows lo wr H T own B cc ps) (hN:LD wr w2 zb rb len rem row) (hc:Chg (fun j=>H j/\j<wr.heap.size) w2 w5) (hlo:lo<=wr.heap.size) :
  Rows lo w5 (fun j=>H j/\j<wr.heap.size\/w2.heap.size<=j) (fun j=>T j/\j<wr.heap.size\/j=rb\/w2.heap.size<=j) own B cc ps:=by
 have hs:=hN.chg.size;have hl:=EZ h.ok;have hr0:=hN.r0;have ht:Chg (fun j=>H j) wr w5:=((Chg.refl _ wr).trans hN.chg fun _ _ h=>h.elim).trans hc fun i hi hk=>hk.1;refine ⟨h.ok.chg ht fun g hg=>(h.ap g hg).1,h.sm,fun g hg => ?_,fun j hj => ?_⟩
 ·have h1:=hl g hg;obtain ⟨a1,a2,a3⟩:=h.ap g hg;refine ⟨fun hh => ?_,fun hh => ?_,a3⟩
  ·rcases hh with hh | hh
   ·exact a1 hh.1
   ·omega
  ·rcases hh with hh | hh | hh
   ·exact a2 hh.1
   ·omega
   ·omega
 ·rcases hj with hj | hj
  ·exact h.low j hj.1
  ·omega
theorem Rows.add {lo:Nat} {w5 wA w6:World} {H T:Nat->Prop} {own own':Option Nat} {B B':Option Addr} {cc cc':Nat} {ps:List (Int×Int)} {p:Int×Int} (h:Rows lo w5 H T own B cc ps) (ha:Chg (fun _=>False) w5 wA) (hown:Qw w6 56 2 own' B' (ps.length+1) cc' (Qg ps++[.int .i64 p.1,.int .i64 p.2]))
  (hor:own'=own\/own'=some wA.heap.size) (hp:(-3<=p.1/\p.1<=3) /\ -3<=p.2/\p.2<=3) (hlo:lo<=w5.heap.size) :
  Rows lo w6 (fun j=>H j/\j<w5.heap.size) (fun j=>T j/\j<w5.heap.size) own' B' cc' (ps++[p]):=by
 have hsz:=ha.size;refine ⟨by rw [List.length_append]; simpa [Qg] using hown,fun q hq => ?_,fun g hg => ?_,fun j hj=>h.low j hj.1⟩
 ·rcases List.mem_append.1 hq with hq | hq
  ·exact h.sm q hq
  ·rw [List.mem_singleton.1 hq]; exact hp
 ·rcases hor with h3 | h3
  ·obtain ⟨a1,a2,a3⟩:=h.ap g (h3▸hg);exact ⟨fun hh=>a1 hh.1,fun hh=>a2 hh.1,a3⟩
  ·rw [h3] at hg;injection hg with hg
   exact ⟨fun hh=>by have:=hh.2; omega,fun hh=>by have:=hh.2; omega,by omega⟩
theorem Rows.del {lo:Nat} {w5 w6:World} {H T:Nat->Prop} {own own':Option Nat} {B B':Option Addr} {cc cc' n:Nat} {ps a b:List (Int×Int)} {p:Int×Int} (h:Rows lo w5 H T own B cc ps) (hps:ps=a++p::b) (hn:n=(a++b).length) (hown:Qw w6 56 2 own' B' n cc' (Qg a++Qg b))
  (hor:∀ g,own'=some g->w5.heap.size<=g) (hlo:lo<=w5.heap.size) :
  Rows lo w6 (fun j=>H j/\j<w5.heap.size) (fun j=>T j/\j<w5.heap.size) own' B' cc' (a++b):=by
 subst hn;refine ⟨by simpa [Qg] using hown,fun q hq => ?_,fun g hg => ?_,fun j hj=>h.low j hj.1⟩
 ·refine h.sm q ?_;rw [hps];rcases List.mem_append.1 hq with hq | hq
  ·exact List.mem_append_left _ hq
  ·exact List.mem_append_right _ (List.mem_cons_of_mem _ hq)
 ·have:=hor g hg;exact ⟨fun hh=>by have:=hh.2; omega,fun hh=>by have:=hh.2; omega,by omega⟩
theorem Rows.Zmf {lo:Nat} {w w':World} {H T:Nat->Prop} {own:Option Nat} {B:Option Addr} {cc:Nat} {ps:List (Int×Int)} (h:Rows lo w H T own B cc ps) (hc:Chg (fun _=>False) w w'):Rows lo w' H T own B cc ps :=
 ⟨h.ok.chg hc fun _ _ h=>h,h.sm,h.ap,h.low⟩
theorem Rows.at {lo:Nat} {w:World} {H T:Nat->Prop} {own:Option Nat} {B:Option Addr} {cc:Nat} {ps:List (Int×Int)} (h:Rows lo w H T own B cc ps) {j:Nat} {p:Int×Int} (hp:ps[j]? = some p) :
  ∃ g,B=some ⟨g,0,none⟩/\own=some g/\w.cell? ⟨g,j*2,none⟩=some (.int .i64 p.1)/\w.cell? ⟨g,j*2+1,none⟩=some (.int .i64 p.2):=by
 rcases h.ok.2.2 with ⟨h4,h5⟩ | ⟨g,cur,h4,h5,h6,h7,h8,h9⟩
 ·have:=h.ok.2.1;have h0:ps.length=0:=by omega
  rw [List.eq_nil_of_length_eq_zero h0] at hp;cases hp
 ·have hj:j<ps.length:=(List.getElem?_eq_some_iff.1 hp).1;obtain ⟨g0,g1⟩:=UF hp;rw [<- h9] at g0 g1;rw [List.getElem?_take_of_lt (by omega)] at g0 g1;exact ⟨g,h5,h4,by rw [cell_of_row _ _ _ _ _ _ h6,<- Array.getElem?_toList]; exact g0,by rw [cell_of_row _ _ _ _ _ _ h6,<- Array.getElem?_toList]; exact g1⟩
theorem Zbq {w:World} {S:Nat->Prop} {A:Option Addr} {ps:List (Int×Int)} (h:CsK w S 2 A ps.length (Qg ps)) {m:Nat} (hm:m<=ps.length):CsK w S 2 A m (Qg (ps.take m)):=by
 obtain ⟨h1,h2⟩:=h;refine ⟨by rw [YS,List.length_take]; omega,fun h0 => ?_⟩;obtain ⟨b,off,e,hS,hb,hx⟩:=h2 (by omega);exact ⟨b,off,e,hS,hb,fun j u hu=>hx j u (by rw [<- Pg,List.getElem?_take] at hu; split at hu; exact hu; cases hu)⟩
theorem Zbr {w:World} {S:Nat->Prop} {b cap:Nat} {ps:List (Int×Int)} (h:CsK w S 2 (some ⟨b,0,none⟩) ps.length (Qg ps)) {m:Nat} (hm:m<=ps.length) (hc:ps.length<=cap):CsK w S 2 (if cap=m then some ⟨b,0,none⟩ else some ⟨b,m*2,none⟩) (ps.length-m) (Qg (ps.drop m)):=by
 obtain ⟨h1,h2⟩:=h;refine ⟨by rw [YS,List.length_drop],fun h0 => ?_⟩;rw [if_neg (by omega)];obtain ⟨b',off',e,hS,hb,hx⟩:=h2 (by omega);cases e;refine ⟨b,m*2,rfl,hS,hb,fun j u hu => ?_⟩;rw [<- Ph,List.getElem?_drop] at hu;have:=hx (m*2+j) u hu
 rwa [Nat.zero_add] at this
structure Zl3 (w2 w3:World) (rr:Nat) (n m:Int):Prop where
 cell:w3.heap[rr]? = some (.cells #[.int .i64 n,.int .i64 m] 56 (0,0))
 chg:Chg (fun _=>False) w2 w3
 r0:w2.heap.size<=rr
theorem UG {w2:World} {n m:Int}:Zl3 w2 (w2.alloc (.cells #[.int .i64 n,.int .i64 m] 56)).drew w2.heap.size n m :=
 ⟨heap_alloc_new w2 _,((Chg.refl _ w2).alloc _).drew,Nat.le_refl _⟩
theorem LD.more {wr w2 w3:World} {zb rb len:Nat} {rem:Bool} {row:List Vl} (h:LD wr w2 zb rb len rem row) (hc:Chg (fun _=>False) w2 w3):LD wr w3 zb rb len rem row :=
 ⟨hc.heap h.cell fun h=>h,h.rw.Zf hc,h.ok,h.r0,h.z0,h.ne,Nat.lt_of_lt_of_le h.lt hc.size,h.chg.trans hc fun _ _ h=>h⟩
theorem LD.Zl4 {wr w2:World} {zb rb len:Nat} {rem:Bool} {row:List Vl} (h:LD wr w2 zb rb len rem row):∃ n m:Int,row=uR (n,m)/\len=2/\((-3<=n/\n<=3) /\ -3<=m/\m<=3)/\w2.cell? ⟨rb,1,none⟩=some (.int .i64 n)/\w2.cell? ⟨rb,4,none⟩=some (.int .i64 m):=by
 obtain ⟨n,m,e,h1,h2⟩:=h.ok;obtain ⟨A,cap,e1,_,_,h3⟩:=h.rw;subst e;obtain ⟨b,off,e2,hb,_,hx⟩:=h3 (by simp);injection e1 with e3 e4 e5
 rw [e2] at e3;injection e3 with e3
 injection e3 with e6 e7
 subst e6 e7;obtain ⟨_,c1,_,_⟩:=hx 0 ⟨1,n,[]⟩ rfl;obtain ⟨_,c4,_,_⟩:=hx 1 ⟨1,m,[]⟩ rfl;exact ⟨n,m,rfl,e4,⟨h1,h2⟩,c1,c4⟩
theorem eqG (x y a b:Int) (w:World):(binOp .eql 56 (.agg #[.int .i64 x,.int .i64 y]) (.agg #[.int .i64 a,.int .i64 b])).run prog w = .ok (.bool (decide ((x,y)=(a,b)))) w:=by
 obtain ⟨i,hi,_⟩:=info_parts (P:=prog) (e:=2) (z := .int .i64 0) (size:=1) (bytes:=8) (by kernel_rfl);have hc:prog.cellsOf 2=1:=by kernel_rfl
 rw [run_eql_struct,run_equalIn_array w 9999 _ _ underlying56 hi,hc];have e:List.range 2=[0,1]:=rfl;rw [e];simp only [Op.eqItems];go_simp;by_cases h1:x=a <;> by_cases h2:y=b <;> simp [h1,h2]
theorem ZdR {ps:List (Int×Int)} {I:Nat} {p:Int×Int} (h:ps[I]? = some p) (a:Int):gvs (ps.take (I+1)) a=if p.1=a then gvs (ps.take I) a++[p.2] else gvs (ps.take I) a:=by
 unfold gvs;rw [List.take_add_one,h];by_cases e:p.1=a <;> simp [e]
theorem UH {ps:List (Int×Int)} (h:Small ps) (a:Int):∀ I,(gvs (ps.take I) a).length<=I/\(∀ x∈gvs (ps.take I) a,-3<=x/\x<=3):=fun I=>by
 refine ⟨?_,fun x hx => ?_⟩
 ·unfold gvs;rw [List.length_map];exact Nat.le_trans (List.length_filter_le _ _) (by rw [List.length_take]; omega)
 ·unfold gvs at hx;obtain ⟨p,hp,rfl⟩:=List.mem_map.1 hx;exact (h p (List.mem_of_mem_take (List.mem_filter.1 hp).1)).2
theorem No:∀ l:List Int,(∀ x∈l,-3<=x/\x<=3) -> -3*(l.length:Int)<=l.sum/\l.sum<=3*(l.length:Int)
 | [],_=>by simp
 | x::l,h=>by
  have h1:=No l fun y hy=>h y (List.mem_cons_of_mem _ hy);have h2:=h x List.mem_cons_self;rw [List.sum_cons,List.length_cons];omega
theorem Zbs (ps:List (Int×Int)) (j:Nat) {kk:Int} (hk:(j:Int)-3=kk):Zi (gS ps (j+1))=Zi (gS ps j)++if gvs ps kk=[] then [] else [⟨YR kk (gvs ps kk),1,0⟩]:=by
 subst hk;rw [gS];unfold Zi;rw [List.map_append];split <;> rfl
theorem Ws.inv {H T:Nat->Prop} {g:Value} {n:Nat} {Z:Zs} {w:World} (h:Ws H T g n Z w):LC n Z:=by
 obtain ⟨_,_,_,hi,_⟩:=h;exact hi
theorem Ws.Zf {H T:Nat->Prop} {g:Value} {n:Nat} {Z:Zs} {w w':World} {C:Nat->Prop} (h:Ws H T g n Z w) (hc:Chg C w w') (hH:∀ k,H k->¬ C k) (hT:∀ k,T k->¬ C k):Ws H T g n Z w':=by
 obtain ⟨y,hx,hy,hi,K⟩:=h;exact ⟨y,hx,hy,hi,K.Zf hc hH hT⟩
theorem WV.Zf {H T:Nat->Prop} {g:Value} {n:Nat} {Z:Zs} {w w':World} {C:Nat->Prop} (h:WV H T g n Z w) (hc:Chg C w w') (hH:∀ k,H k->¬ C k) (hT:∀ k,T k->¬ C k):WV H T g n Z w':=by
 obtain ⟨hx,hy,hi,K⟩:=h;exact ⟨hx,hy,hi,K.Zf hc hH hT⟩
theorem WV.low {H T:Nat->Prop} {g:Value} {n:Nat} {Z:Zs} {w:World} (h:WV H T g n Z w):WV (fun j=>H j/\j<w.heap.size) (fun j=>T j/\j<w.heap.size) g n Z w:=by
 obtain ⟨hx,hy,hi,K⟩:=h;exact ⟨hx,hy,hi,K.mono (fun k hk hl=>⟨hk,hl⟩) fun k hk hl=>⟨hk,hl⟩⟩
theorem Ws.low {H T:Nat->Prop} {g:Value} {n:Nat} {Z:Zs} {w:World} (h:Ws H T g n Z w):Ws (fun j=>H j/\j<w.heap.size) (fun j=>T j/\j<w.heap.size) g n Z w:=by
 obtain ⟨y,hx,hy,hi,K⟩:=h;exact ⟨y,hx,hy,hi,K.mono (fun k hk hl=>⟨hk,hl⟩) fun k hk hl=>⟨hk,hl⟩⟩
theorem Zfm {w:World} {A:Option Addr} {n c:Nat} (haw:∀ W,Calls prog 22 #[] W fun e W'=>e = .returned (.bool true)/\Chg (fun _=>False) W W') (h:E0 w A n c) :
  Calls prog 5 #[.slice A n c] w fun e w'=>e = .returned (.bool true)/\Chg (fun _=>False) w w':=by
 obtain ⟨hnc,hcm,o5⟩:=h;have vg:=Hd o5;clear o5;have hR:=@Zir S0;have K0:=Kn.start (S:=S0) (T:=TT w) w;obtain ⟨s1,ct,s2,s3,b1,s4,s5,eU,call2,call3,call4,call5,jH⟩:=@Ux S0 ZdM;obtain ⟨s6,b2,s7,s8,call6,call7,call8,jI⟩:=@Uy S0 ZdN
 go_enter func5,ntmps5
 go_wp2_with fail
 refine (K0.call hR (fun _ _=>rfl) eU (fun us W=>call9 us W) (fun r _=>vn)).mono ?_;rintro _ w1 ⟨u1,rfl,K1,h1⟩;obtain ⟨gb,rfl⟩:=K1.ptr;have K1:=K1.low (w0:=w) (fun k hk=>hk) (Nat.le_refl _);have hc1:Chg (fun _=>False) w w1:=(Chg.refl _ w).trans h1 fun i hi hk=>by have hk:w.heap.size<=i:=hk; omega
 clear h1
 go_wp2_with fail
 refine (K1.call hR (fun _ _=>rfl) call2 (fun us W=>call13 us W) (fun r h=>vn)).mono ?_;rintro _ w2 ⟨u2,rfl,K2,h2⟩;have K2:=K2.low (w0:=w) (fun k hk=>hk) hc1.size;have hc2:Chg (fun _=>False) w w2:=hc1.trans h2 fun i hi hk=>by have hk:w.heap.size<=i:=hk; omega
 clear h2
 go_wp2_with fail
 refine (K2.call hR (fun _ _=>rfl) call3 (fun us W=>call12 us W) (us:=[.string ⟨⟨[117]⟩⟩,u2]) (fun r h=>vc vs (vc (vh h) vn))).mono ?_;rintro _ w3 ⟨u3,rfl,K3,h3⟩;have K3:=K3.low (w0:=w) (fun k hk=>hk) hc2.size;have hc3:Chg (fun _=>False) w w3:=hc2.trans h3 fun i hi hk=>by have hk:w.heap.size<=i:=hk; omega
 clear h3
 go_wp2_with fail
 refine (K3.call hR (fun _ _=>rfl) call4 (fun us W=>call11 us W) (us:=[u3,.int .i64 0,.int .i64 1]) (fun r h=>vc (vh h) (vc vi (vc vi vn)))).mono ?_;rintro _ w4 ⟨u4,rfl,K4,h4⟩;have K4:=K4.low (w0:=w) (fun k hk=>hk) hc3.size;have hc4:Chg (fun _=>False) w w4:=hc3.trans h4 fun i hi hk=>by have hk:w.heap.size<=i:=hk; omega
 clear h4
 go_wp2_with fail
 refine (K4.call hR (fun _ _=>rfl) call5 (fun us W=>call10 us W) (us:=[.pointer (some ⟨gb,0,none⟩),u4]) (fun r h=>vc (vh (vt (vt (vt h)))) (vc (vh h) vn))).mono ?_;rintro _ w5 ⟨u5,rfl,K5,h5⟩;have K5:=K5.low (w0:=w) (fun k hk=>hk) hc4.size;have bK:Chg (fun _=>False) w w5:=hc4.trans h5 fun i hi hk=>by have hk:w.heap.size<=i:=hk; omega
 clear h5;have K5:Kn S0 V2.S (TT w) w5 [.ptr 0 0] [.pointer (some ⟨gb,0,none⟩)]:=K5.view (fun r h=>vh (vt (vt (vt (vt h))))) jH (fun h=>by cases h) (fun _=>rfl) rfl (fun a b h=>by cases h) (fun b h=>by cases h) (fun a b h=>by cases h) (fun b h=>by cases h)
 go_wp2_with fail
 refine (K5.call hR (fun _ _=>rfl) call6 (fun us W=>call14 us W) (fun r h=>vc vs (vc vs vn))).mono ?_;rintro _ w6 ⟨u6,rfl,K6,h6⟩;have K6:=K6.low (w0:=w) (fun k hk=>hk) bK.size;have hc6:Chg (fun _=>False) w w6:=bK.trans h6 fun i hi hk=>by have hk:w.heap.size<=i:=hk; omega
 clear h6
 go_wp2_with fail
 refine (K6.call hR (fun _ _=>rfl) call7 (fun us W=>call11 us W) (us:=[u6,.int .i64 0,.int .i64 2]) (fun r h=>vc (vh h) (vc vi (vc vi vn)))).mono ?_;rintro _ w7 ⟨u7,rfl,K7,h7⟩;have K7:=K7.low (w0:=w) (fun k hk=>hk) hc6.size;have dV:Chg (fun _=>False) w w7:=hc6.trans h7 fun i hi hk=>by have hk:w.heap.size<=i:=hk; omega
 clear h7
 go_wp2_with fail
 refine (K7.call hR (fun _ _=>rfl) call8 (fun us W=>call10 us W) (us:=[.pointer (some ⟨gb,0,none⟩),u7]) (fun r h=>vc (vh (vt (vt h))) (vc (vh h) vn))).mono ?_;rintro _ w8 ⟨u8,rfl,K8,h8⟩;have K8:=K8.low (w0:=w) (fun k hk=>hk) dV.size;have hc8:Chg (fun _=>False) w w8:=dV.trans h8 fun i hi hk=>by have hk:w.heap.size<=i:=hk; omega
 clear h8;have K8:Kn (S1 [] 0 0 (by decide) (by decide)) V4.S (TT w) w8 [.ptr 0 0] [.pointer (some ⟨gb,0,none⟩)]:=K8.view (fun r h=>vh (vt (vt (vt h)))) jI (fun _=>rfl) (fun h=>by cases h) rfl (fun a b h=>by cases h) ZdQ (fun a b h=>by cases h) Ziz;have hst:Ws (TT w) (TT w) (.pointer (some ⟨gb,0,none⟩)) 0 [] w8:=⟨0,by decide,by decide,Jp.start _,K8.toH⟩
 clear K0 K1 K2 K3 K4 K5 K6 K7 K8 eU call2 call3 call4 call5 call6 call7 call8 jH jI hR hc1 hc2 hc3 hc4 bK hc6 dV
 go_wp2_with fail
 go_loopw [4,5] (fun hv i wr=>∃ (k:Nat) (H T:Nat->Prop) (Z:Zs) (own:Option Nat) (B:Option Addr) (cc:Nat) (ps:List (Int×Int)),k<=40/\i = .int .i64 k/\hv = .slice B ps.length cc/\Hid (Rows w.heap.size wr H T own B cc ps)/\Hid (Bag Z (ps.map uR))/\Ws H T (.pointer (some ⟨gb,0,none⟩)) k Z wr/\ps.length<=k/\Chg (fun _=>False) w wr) (fun hv i _=>40-(intOf i).toNat)
 case atStart=>exact ⟨0,TT w,TT w,[],none,none,0,[],by omega,rfl,rfl,Hd (Rows.Zl2 hc8),Hd Bag.nil,hst,Nat.le_refl _,hc8⟩
 case round =>
  obtain ⟨k,H,T,Z,own,B,cc,ps,o6,rfl,rfl,HR,HB,hst',hpk,hcw⟩:=hrel;by_cases hkn:k<n/\k<40
  ·have l0:(k:Int)<(n:Int):=by omega
   have l1:(k:Int)<40:=by omega
   obtain ⟨b,off,rfl,hb,hall⟩:=vg.out (by omega);obtain ⟨tab,rv,r,rem,q0,q1,q2,hr⟩:=hall k hkn.1;have q1:=hcw.cell q1 (fun h=>h);have q2:=hcw.cell q2 (fun h=>h);have hr:=hr.Zf hcw;have HT:∀ W,Chg (fun _=>False) wr W->Calls prog 24 #[.agg #[.string ⟨#[120]⟩,rv,.bool rem]] W (ZdO W true rem):=fun W hW=>UB (tab:=⟨#[120]⟩) (hr.Zf hW) rfl;obtain ⟨RA,aa,rfl,_⟩:=hr;clear hall q0;have HST:=Hd hst';clear hst'
   go_wp2_with fail
   have hWd:Chg (fun _=>False) wr wr.drew:=(Chg.refl _ wr).drew;have d1:wr.drew.cell? ⟨b,off+k*3+1,none⟩=some (.slice RA r.length aa):=hWd.cell q1 fun h=>h;have d2:wr.drew.cell? ⟨b,off+k*3+2,none⟩=some (.bool rem):=hWd.cell q2 fun h=>h;apply Zl1 (wr:=wr) (rem:=rem)
   ·intro hK;refine RN [0,1,2,3,4,5,6,7,8,9,10] (S:=fun wx=>wx.cell? ⟨b,off+k*3+1,none⟩=some (.slice RA r.length aa)/\wx.cell? ⟨b,off+k*3+2,none⟩=some (.bool rem)) (by kernel_rfl) ⟨d1,d2⟩ (fun hHeld => ?_);refine tkE 0 (some 40) ?_;refine tkE 1 (some 41) ?_;refine tkE 2 (some 42) ?_;refine tkE 3 (some 43) ?_;refine tkE 4 (some 44) ?_;refine tkE 5 (some 45) ?_;refine tkE 6 (some 46) ?_;refine tkE 7 (some 47) ?_;refine tkE 8 (some 48) ?_;refine tkE 9 (some 49) ?_;refine tkE 10 (some 50) ?_;refine J6 (rs:=[11,12]) (by kernel_rfl) (by simp) ?_;refine ZM.cons rfl (fun K hK => ?_) ?_
    ·skip
     go_simp;refine (HT _ hWd).mono ?_;rintro _ wA ⟨rb,len,row,rfl,hrb,hrow,eT,hA⟩;have e1:=hA.cell d1 fun h=>h;have e2:=hA.cell d2 fun h=>h
     go_wp2_with fail
     refine hK.out _ _ ?_ (fun hHeld => ?_)
     ·(first | exact ⟨e1,e2⟩ | exact ⟨((hWd.trans hA fun _ _ h=>h).alloc _).cell q1 (fun h=>h),((hWd.trans hA fun _ _ h=>h).alloc _).cell q2 (fun h=>h)⟩ | exact ⟨(hWd.alloc _).cell q1 (fun h=>h),(hWd.alloc _).cell q2 (fun h=>h)⟩)
     clear hK K
     try simp only [Act.put,List.setIfInBounds_toArray,List.set_cons_zero,List.set_cons_succ]
     refine J6 (rs:=[12]) (by kernel_rfl) (by simp) ?_;refine ZM.cons rfl (fun K hK => ?_) ZM.nil;go_simp
     skip
     refine hK.out _ _ ?_ (fun hHeld => ?_)
     ·(first | exact ⟨e1,e2⟩ | exact ⟨((hWd.trans hA fun _ _ h=>h).alloc _).cell q1 (fun h=>h),((hWd.trans hA fun _ _ h=>h).alloc _).cell q2 (fun h=>h)⟩ | exact ⟨(hWd.alloc _).cell q1 (fun h=>h),(hWd.alloc _).cell q2 (fun h=>h)⟩)
     clear hK K
     try simp only [Act.put,List.setIfInBounds_toArray,List.set_cons_zero,List.set_cons_succ]
     refine J6 (rs:=[13]) (by kernel_rfl) (by simp) ?_;refine ZM.ZN rfl (by kernel_rfl) (fun K hK => ?_) ZM.nil;go_simp;refine hK.out _ _ ?_;clear hK K
     try simp only [Act.put,List.setIfInBounds_toArray,List.set_cons_zero,List.set_cons_succ]
     refine SV (by kernel_rfl) ?_ _;have hN:=ZiA (rem:=rem) (hWd.trans hA fun _ _ h=>h) hrb hrow eT;obtain ⟨W2,hW2⟩:∃ x,x=(wA.alloc (.cells #[.string ⟨#[117]⟩,.slice (some ⟨rb,0,none⟩) len len,.bool rem] 41)):=⟨_,rfl⟩
     rw [<- hW2] at hN ⊢;obtain ⟨zb,hzb⟩:∃ x,x=wA.heap.size:=⟨_,rfl⟩
     rw [<- hzb] at hN ⊢;exact hK zb rb len row W2 hN
    refine ZM.cons rfl (fun K hK => ?_) ?_
    ·skip
     go_simp
     skip
     refine hK.out _ _ ?_ (fun hHeld => ?_)
     ·(first | exact ⟨e1,e2⟩ | exact ⟨((hWd.trans hA fun _ _ h=>h).alloc _).cell q1 (fun h=>h),((hWd.trans hA fun _ _ h=>h).alloc _).cell q2 (fun h=>h)⟩ | exact ⟨(hWd.alloc _).cell q1 (fun h=>h),(hWd.alloc _).cell q2 (fun h=>h)⟩)
     clear hK K
     try simp only [Act.put,List.setIfInBounds_toArray,List.set_cons_zero,List.set_cons_succ]
     refine J6 (rs:=[11]) (by kernel_rfl) (by simp) ?_;refine ZM.cons rfl (fun K hK => ?_) ZM.nil;go_simp;refine (HT _ (hWd.alloc _)).mono ?_;rintro _ wA ⟨rb,len,row,rfl,hrb,hrow,eT,hA⟩;have e1:=hA.cell ((hWd.alloc _).cell q1 fun h=>h) fun h=>h;have e2:=hA.cell ((hWd.alloc _).cell q2 fun h=>h) fun h=>h;have hz:wA.heap[wr.heap.size]? = some (.cells #[.string ⟨#[]⟩,.slice none 0 0,.bool false] 41 (0,0)):=hA.heap (heap_alloc_new wr.drew _) fun h=>h;obtain ⟨z0,z1,z2⟩:=Z1 hz;have zf0:=frozen_of_row _ _ 0 _ _ hz;have zf1:=frozen_of_row _ _ 1 _ _ hz;have zf2:=frozen_of_row _ _ 2 _ _ hz
     go_wp2_with fail
     refine hK.out _ _ ?_ (fun hHeld => ?_)
     ·(first | exact ⟨e1,e2⟩ | exact ⟨((hWd.trans hA fun _ _ h=>h).alloc _).cell q1 (fun h=>h),((hWd.trans hA fun _ _ h=>h).alloc _).cell q2 (fun h=>h)⟩ | exact ⟨(hWd.alloc _).cell q1 (fun h=>h),(hWd.alloc _).cell q2 (fun h=>h)⟩)
     clear hK K
     try simp only [Act.put,List.setIfInBounds_toArray,List.set_cons_zero,List.set_cons_succ]
     refine J6 (rs:=[13]) (by kernel_rfl) (by simp) ?_;refine ZM.ZN rfl (by kernel_rfl) (fun K hK => ?_) ZM.nil;go_simp;refine hK.out _ _ ?_;clear hK K
     try simp only [Act.put,List.setIfInBounds_toArray,List.set_cons_zero,List.set_cons_succ]
     refine SV (by kernel_rfl) ?_ _;have hN:=ZiB (rem:=rem) hA hrb hrow eT;obtain ⟨W2,hW2⟩:∃ x,x=(((wA.setCell ⟨wr.heap.size,0,none⟩ (.string ⟨#[117]⟩)).setCell ⟨wr.heap.size,1,none⟩ (.slice (some ⟨rb,0,none⟩) len len)).setCell ⟨wr.heap.size,2,none⟩ (.bool rem)):=⟨_,rfl⟩
     rw [<- hW2] at hN ⊢;obtain ⟨zb,hzb⟩:∃ x,x=wr.heap.size:=⟨_,rfl⟩
     rw [<- hzb] at hN ⊢;exact hK zb rb len row W2 hN
    exact ZM.nil
   ·intro zb rb len row w2 hN;obtain ⟨na,nb,rfl,rfl,hsm,n1,n4⟩:=hN.Zl4;obtain ⟨z0,z1,z2⟩:=Z1 hN.cell;have eZ:=Hd hN;clear hN
    go_wp2_with fail
    have kS:Chg (fun _=>False) w2 w2.drew:=(Chg.refl _ w2).drew;have f0:=kS.cell z1 fun h=>h;have f1:=kS.cell n1 fun h=>h;have f2:=kS.cell n4 fun h=>h;refine wp_region_held_drew (S:=fun wx=>wx.cell? ⟨zb,1,none⟩=some (.slice (some ⟨rb,0,none⟩) 2 2)/\wx.cell? ⟨rb,1,none⟩=some (.int .i64 na)/\wx.cell? ⟨rb,4,none⟩=some (.int .i64 nb)) (by kernel_rfl) ⟨f0,f1,f2⟩ (fun hHeld => ?_);refine tkH 0 (some 52) ?_;refine tkH 1 (some 53) ?_;refine tkH 2 (some 54) ?_;refine tkH 3 (some 55) ?_;refine tkH 4 (some 56) ?_;refine tkH 5 (some 57) ?_;refine tkH 6 (some 58) ?_;refine tkH 7 (some 59) ?_;refine tkH 8 (some 60) ?_;refine tkH 9 (some 61) ?_;refine tkH 10 (some 62) ?_;refine wpAnyH_ready (rs:=[11]) (by kernel_rfl) (by simp) ?_;refine AllReadyH.cons rfl (fun K hK => ?_) AllReadyH.nil;go_simp;have g0:=(kS.alloc (.cells #[.int .i64 0,.int .i64 0] 56)).cell z1 fun h=>h;have g1:=(kS.alloc (.cells #[.int .i64 0,.int .i64 0] 56)).cell n1 fun h=>h;have g2:=(kS.alloc (.cells #[.int .i64 0,.int .i64 0] 56)).cell n4 fun h=>h;refine hK.out _ _ ?_ (fun hHeld => ?_)
    ·(first | exact ⟨g0,g1,g2⟩ | exact ⟨(UG.chg).cell z1 fun h=>h,(UG.chg).cell n1 fun h=>h,(UG.chg).cell n4 fun h=>h⟩)
    clear hK K
    try simp only [Act.put,List.setIfInBounds_toArray,List.set_cons_zero,List.set_cons_succ]
    refine wpAnyH_ready (rs:=[12]) (by kernel_rfl) (by simp) ?_;refine AllReadyH.cons rfl (fun K hK => ?_) AllReadyH.nil;go_simp
    skip
    refine hK.out _ _ ?_ (fun hHeld => ?_)
    ·(first | exact ⟨g0,g1,g2⟩ | exact ⟨(UG.chg).cell z1 fun h=>h,(UG.chg).cell n1 fun h=>h,(UG.chg).cell n4 fun h=>h⟩)
    clear hK K
    try simp only [Act.put,List.setIfInBounds_toArray,List.set_cons_zero,List.set_cons_succ]
    refine wpAnyH_done (by kernel_rfl) ?_ _;have hG:=UG (w2:=w2) (n:=na) (m:=nb);obtain ⟨w3,hw3⟩:∃ x,x=(w2.alloc (.cells #[.int .i64 na,.int .i64 nb] 56)).drew:=⟨_,rfl⟩
    rw [<- hw3] at hG ⊢;obtain ⟨rr,hrr⟩:∃ x,x=w2.heap.size:=⟨_,rfl⟩
    rw [<- hrr] at hG ⊢;have HRR:=Hd hrr;clear hw3 hHeld f0 f1 f2 kS z0 z1 z2 n1 n4 hrr;have hN:=eZ.out.more hG.chg;have hrw:rr<w3.heap.size:=lt_of_block hG.cell;obtain ⟨y,hx,hy,hi,K⟩:=HST.out;obtain ⟨P1,P2,p1,p2,p3⟩:=ZkM (rem:=rem) hi (by omega) K hN.chg hN.rw hN.r0 hN.lt hN.ok;have HN:=Hd hN;have HG:=Hd hG;have HRW:=Hd hrw;obtain ⟨z0,z1,z2⟩:=Z1 hN.cell;obtain ⟨tb,htb⟩:∃ x,x=PH:=⟨_,rfl⟩
    rw [<- htb] at p1 z0;have HTB:=Hd htb;clear hN hG K hi htb HST hrw
    go_wp2_with fail
    refine p1.mono ?_;rintro _ v2 ⟨x1,rfl,h1⟩
    go_wp2_with fail
    refine (p2 _ _ h1).mono ?_;rintro _ v3 ⟨x2,rfl,h2⟩
    go_wp2_with fail
    refine (p3 _ _ h2).mono ?_;rintro _ w5 ⟨v,rfl,hU,hch⟩;have hN:=HN.out;have hlo:w.heap.size<=wr.heap.size:=hcw.size;have iL:=Hd (HR.out.upd hN hch hlo);have bR:Chg (fun _=>False) w w5:=((hcw.trans hN.chg fun _ _ h=>h).trans hch fun i hi hk=>by have:=HR.out.low i hk.1; omega)
    have zW:=hch.heap hN.cell fun h=>by have:=h.2; have:=hN.z0; omega
    have zX:=hch.heap HG.out.cell fun h=>by have:=h.2; have:=HRR.out; have:=eZ.out.chg.size; omega
    have HZ5:=Hd zW;have zY:=Hd zX;have zZ:wr.heap.size<=w3.heap.size:=hN.chg.size;clear hN z0 z1 z2 zW zX p1 p2 p3 h1 h2 P1 P2;rcases hU with ⟨rfl,hth,dh⟩ | ⟨rfl,hA⟩
    ·unfold qQ;obtain ⟨y0,y1,y2⟩:=Z1 HZ5.out;have r0:w5.cell? ⟨rr,0,none⟩=some (.int .i64 na):=by rw [cell_of_row _ _ _ _ _ _ zY.out]; rfl
     have r1:w5.cell? ⟨rr,1,none⟩=some (.int .i64 nb):=by rw [cell_of_row _ _ _ _ _ _ zY.out]; rfl
     have dh:=dh.to;cases rem
     ·skip
      have o7:=(Chg.refl (fun _=>False) w5).alloc (.cells #[.int .i64 na,.int .i64 nb] 56);have z8:=Hd (iL.out.ok.chg o7 fun _ _ h=>h);have H1:=Hd (CI w5 (.int .i64 na) (.int .i64 nb) 56)
      go_wp2_with (at_builtin; refine ZA rfl _ _ 52 52 rfl 56 2 16 Fu own B ps.length cc 1 (Qg ps) [.int .i64 na,.int .i64 nb] _ rfl rfl z8.out (XK.slice H1.out) (by simp [Value.oneCell']) (ps.length+1) rfl (by omega) (by omega) ?_)
      intro own' B' c' w6 hown hor ae;have vk:=Hd (iL.out.add (p:=(na,nb)) o7 hown (by rw [show (w5.alloc (.cells #[.int .i64 na,.int .i64 nb] 56)).heap.size=w5.heap.size+1 from Array.size_push _]; exact hor) hsm (Nat.le_trans hcw.size (Nat.le_trans zZ hch.size)));have o8:=(dh.low.Zf o7 (fun _ _ h=>h) fun _ _ h=>h).Zf ae (fun j hj h=>(iL.out.ap j h).1 hj.1) fun j hj h=>(iL.out.ap j h).2.1 hj.1;have hc6:Chg (fun _=>False) w w6:=(bR.trans o7 fun _ _ h=>h).trans ae fun i hi h=>by have:=(iL.out.ap i h).2.2; omega
      have vo:=Hd (by have:=HB.out.add (uR (na,nb)); rw [show ps.map uR++[uR (na,nb)]=(ps++[(na,nb)]).map uR by simp] at this; exact this:Bag (Ql (uR (na,nb)) 1 Z) ((ps++[(na,nb)]).map uR));have hZ:Ql (uR (na,nb)) (sd !false) Z=Ql (uR (na,nb)) 1 Z:=rfl;rw [hZ] at o8;have hlen:(ps++[(na,nb)]).length=ps.length+1:=by simp
      have hpn:ps.length+1<=k+1:=by omega
      clear hown hor z8 H1 y0 y1 y2 ae o7 dh r0 r1 hZ
      go_wp2_with fail
      go_roundw
      case rel=>exact ⟨k+1,_,_,_,_,_,_,ps++[(na,nb)],by omega,by go_num,by rw [hlen],vk,vo,o8,by rw [hlen]; exact hpn,hc6⟩
      case measure=>simp [intOf]; omega
     ·skip
      have HTH:=Hd (hth rfl);have HYS:=Hd dh;clear hth dh
      go_wp2_with fail
      go_loopw [4,8] (fun hv i wx=>∃ I:Nat,I<=ps.length/\hv = .slice B ps.length cc/\i = .int .i64 I/\Hid (∀ j p,j<I->ps[j]? = some p->p≠(na,nb))/\Chg (fun _=>False) w5 wx) (fun hv i _=>ps.length-(intOf i).toNat)
      case atStart=>exact ⟨0,Nat.zero_le _,rfl,rfl,Hd (fun j p h=>absurd h (Nat.not_lt_zero _)),Chg.refl _ _⟩
      case round =>
       obtain ⟨I,hI,rfl,rfl,Aa,hcI⟩:=hrel;have r0:=hcI.cell r0 fun h=>h;have r1:=hcI.cell r1 fun h=>h;by_cases qR:I<ps.length
       ·have o9:(I:Int)<(ps.length:Int):=by omega
        obtain ⟨p,jb⟩:∃ p,ps[I]? = some p:=⟨_,List.getElem?_eq_getElem qR⟩
        obtain ⟨gm,hBm,jJ,d0,d1⟩:=iL.out.at jb;have d0:=hcI.cell d0 fun h=>h;have d1:=hcI.cell d1 fun h=>h;have Ab:=Hd (And.intro jb jJ);subst hBm;clear jb jJ;obtain ⟨p1,p2⟩:=p;obtain ⟨D,hD⟩:∃ D,D=decide ((p1,p2)=(na,nb)):=⟨_,rfl⟩
        have heq:=eqG p1 p2 na nb;rw [<- hD] at heq;have HD:=Hd hD;clear hD;cases D
        ·go_wp2_with fail
         go_region_held (fun wx=>wx.cell? ⟨gm,I*2,none⟩=some (.int .i64 p1)/\wx.cell? ⟨gm,I*2+1,none⟩=some (.int .i64 p2)/\wx.cell? ⟨rr,0,none⟩=some (.int .i64 na)/\wx.cell? ⟨rr,1,none⟩=some (.int .i64 nb)) (go_keep) (fail)
         go_wp2_with fail
         go_roundw
         case rel=>exact ⟨I+1,by omega,rfl,by go_num,Hd (fun j q hj hq=>by
          by_cases e:j=I
          ·subst e;rw [Ab.out.1] at hq;cases hq;exact of_decide_eq_false HD.out.symm
          ·exact Aa.out j q (by omega) hq),hcI.drew⟩
         case measure=>simp [intOf]; omega
        ·go_wp2_with fail
         go_region_held (fun wx=>wx.cell? ⟨gm,I*2,none⟩=some (.int .i64 p1)/\wx.cell? ⟨gm,I*2+1,none⟩=some (.int .i64 p2)/\wx.cell? ⟨rr,0,none⟩=some (.int .i64 na)/\wx.cell? ⟨rr,1,none⟩=some (.int .i64 nb)) (go_keep) (fail)
         obtain ⟨wB,kT⟩:∃ x,x=wr.drew:=⟨_,rfl⟩
         have qU:Chg (fun _=>False) w5 wB:=by rw [kT]; exact hcI.drew
         rw [<- kT];have hlc:ps.length<=cc:=iL.out.ok.2.1;have hIc:I<=cc:=by omega
         have hI1:I+1<=ps.length:=by omega
         have aaD:I+1<=cc:=by omega
         have HOW:=Hd (iL.out.ok.chg qU fun _ _ h=>h);have hw1:IntKind.i64.wrap ((I:Int)+1)=(I:Int)+1:=IntWalk.i64_in _ (by omega);have hw2:((I:Int)+1).toNat=I+1:=by omega
         have hw3:(0:Int)<=(I:Int)+1:=by omega
         have hw4:(I:Int)+1<=(ps.length:Int):=by omega
         clear kT heq d0 d1 r0 r1
         go_wp2_with fail
         refine wp_region_held_drew (S:=fun _=>True) (by kernel_rfl) trivial (fun hHeld => ?_);refine tkH 1 (some 93) ?_;refine tkH 2 (some 94) ?_;refine tkH 3 (some 95) ?_;refine tkH 5 (some 97) ?_;refine tkH 6 (some 98) ?_;refine tkH 7 (some 99) ?_;refine tkH 8 (some 100) ?_;refine wpAnyH_ready (rs:=[0]) (by kernel_rfl) (by simp) ?_;refine AllReadyH.cons rfl (fun K hK => ?_) AllReadyH.nil;go_simp
         skip
         refine hK.out _ _ ?_ (fun hHeld => ?_)
         ·(trivial)
         clear hK K
         try simp only [Act.put,List.setIfInBounds_toArray,List.set_cons_zero,List.set_cons_succ]
         refine wpAnyH_ready (rs:=[4]) (by kernel_rfl) (by simp) ?_;refine AllReadyH.cons rfl (fun K hK => ?_) AllReadyH.nil;have hE:Chg (fun _=>False) wB (wB.alloc (.cells #[] 56)).drew:=((Chg.refl (fun _=>False) wB).alloc _).drew;have HT1:=Hd (Zbq ((HOW.out.chg hE fun _ _ h=>h).cs) hI);refine Q6 rfl _ _ 52 52 rfl 56 2 16 Fu none _ 0 0 I [] (Qg (ps.take I)) _ rfl rfl (Qw.Xt _ _ _ _) (XK.slice HT1.out) (Nn _) I (by omega) ?_ ?_ ?_
         ·omega
         ·omega
         intro pg B1 c1 v1 hown1 vw pq;go_simp;refine hK.out _ _ ?_ (fun hHeld => ?_)
         ·(trivial)
         clear hK K
         try simp only [Act.put,List.setIfInBounds_toArray,List.set_cons_zero,List.set_cons_succ]
         refine wpAnyH_ready (rs:=[9]) (by kernel_rfl) (by simp) ?_;refine AllReadyH.cons rfl (fun K hK => ?_) AllReadyH.nil;have hE2:Chg (fun _=>False) wB v1:=hE.trans pq fun i hi h=>by cases h
         have HT2:=Hd (Zbr ((HOW.out.chg hE2 fun _ _ h=>h).cs) hI1 hlc);refine Q6 rfl _ _ 52 52 rfl 56 2 16 Fu pg B1 I c1 (ps.length-(I+1)) ([]++Qg (ps.take I)) (Qg (ps.drop (I+1))) _ rfl rfl hown1 (XK.slice HT2.out) (Nn _) (ps.length-1) (by omega) ?_ ?_ ?_
         ·omega
         ·omega
         intro vz B2 c2 v2 hown2 hor2 pz;go_simp;refine hK.out _ _ ?_ (fun hHeld => ?_)
         ·(trivial)
         clear hK K
         try simp only [Act.put,List.setIfInBounds_toArray,List.set_cons_zero,List.set_cons_succ]
         refine tkH 10 (some 4) ?_;refine wpAnyH_done (by kernel_rfl) ?_ _
         have hg1:∀ g,pg=some g->wB.heap.size<=g:=fun g hg=>by
          rcases vw with e | e
          ·rw [e] at hg; cases hg
          ·rw [e] at hg;injection hg with hg
           exact hg▸hE.size
         have hv2:Chg (fun _=>False) wB v2:=hE2.trans pz fun i hi h=>by have:=hg1 i h; omega
         have hv5:Chg (fun _=>False) w5 v2:=qU.trans hv2 fun _ _ h=>h
         have hg2:∀ g,vz=some g->w5.heap.size<=g:=fun g hg=>by
          rcases hor2 with e | e
          ·have:=hg1 g (e▸hg); have:=qU.size; omega
          ·rw [e] at hg;injection hg with hg
           have:=hE2.size;have:=qU.size;omega
         have hsp:ps=ps.take I++(p1,p2)::ps.drop (I+1):=by
          have h1:=List.take_append_drop I ps;rw [List.drop_eq_getElem_cons qR] at h1;rw [(List.getElem?_eq_some_iff.1 Ab.out.1).2] at h1;exact h1.symm
         have hpe:(p1,p2)=(na,nb):=of_decide_eq_true HD.out.symm;have pE:ps.length-1=(ps.take I++ps.drop (I+1)).length:=by rw [List.length_append,List.length_take,List.length_drop]; omega
         have vk:=Hd (iL.out.del hsp pE hown2 hg2 (Nat.le_trans hcw.size (Nat.le_trans zZ hch.size)))
         have vo:=Hd (show Bag (Ql (uR (na,nb)) (-1) Z) ((ps.take I++ps.drop (I+1)).map uR) from by
          have h1:=HB.out;rw [hsp,List.map_append,List.map_cons,hpe] at h1;rw [List.map_append]
          exact h1.del)
         have o8:=HYS.out.low.Zf hv5 (fun _ _ h=>h) fun _ _ h=>h;have hc6:Chg (fun _=>False) w v2:=bR.trans hv5 fun _ _ h=>h;have hZ:Ql (uR (na,nb)) (sd !true) Z=Ql (uR (na,nb)) (-1) Z:=rfl;rw [hZ] at o8;have hpn:(ps.take I++ps.drop (I+1)).length<=k+1:=by omega
         go_wp2_with fail
         go_roundw
         case rel=>exact ⟨k+1,_,_,_,_,_,_,ps.take I++ps.drop (I+1),by omega,by go_num,by rw [<- pE],vk,vo,o8,hpn,hc6⟩
         case measure=>simp [intOf]; omega
       ·have hge:¬ (I:Int)<(ps.length:Int):=by omega
        exfalso;have h1:=HTH.out;have h2:=HB.out.cnt (uR (na,nb));have h3:uR (na,nb)∈ps.map uR:=List.count_pos_iff.1 (by omega);obtain ⟨q,hq,e⟩:=List.mem_map.1 h3;obtain ⟨j,hj⟩:=List.getElem?_of_mem hq;have e1:q.1=na:=congrArg Vl.n (List.cons.inj e).1;have e2:q.2=nb:=congrArg Vl.n (List.cons.inj (List.cons.inj e).2).1;exact Aa.out j q (by have:=(List.getElem?_eq_some_iff.1 hj).1; omega) hj (Prod.ext e1 e2)
    ·skip
     unfold qQ
     go_wp2_with fail
     go_roundw
     case rel=>exact ⟨k+1,_,_,Z,own,B,cc,ps,by omega,by go_num,rfl,iL,HB,hA,by omega,bR⟩
     case measure=>simp [intOf]; omega
  ·have hgo:(¬ (k:Int)<(n:Int))\/((k:Int)<(n:Int)/\¬ (k:Int)<40):=by omega
   have HST:=Hd hst'.low;have hi':=hst'.inv;have key:=ZkN o6 hi' HB.out HR.out.sm;have HKEY:=Hd key;have hlk:ps.length<=40:=by omega
   clear hkn hst' key hi';obtain ⟨wE,rfl⟩:∃ x:World,x=wr:=⟨_,rfl⟩
   rcases hgo with l0 | ⟨l0,l1⟩
   all_goals
    go_wp2_with fail
    go_loopw [10,9] (fun kv av wx=>∃ (j:Nat) (kk:Int) (oA:Option Nat) (BA:Option Addr) (LA cA:Nat) (pA:List PI),j<=7/\kk+3=(j:Int)/\kv = .int .i64 kk/\av = .slice BA LA cA/\LA<=j/\Hid (pA.map (·.2)=Zi (gS ps j)) /\
     Hid (Qw wx 59 2 oA BA LA cA (ZG pA))/\Hid (∀ g,oA=some g->wE.heap.size<=g)/\Hid (∀ p∈pA,POk (fun b=>wE.heap.size<=b/\oA≠some b) wx p)/\Chg (fun _=>False) wE wx) (fun kv _ _=>(4-intOf kv).toNat)
    case atStart=>exact ⟨0,-3,none,none,0,0,[],by omega,rfl,rfl,rfl,Nat.le_refl _,Hd rfl,Hd (Qw.Xt _ _ _ _),Hd (fun g h=>by cases h),Hd (fun p h=>by cases h),Chg.refl _ _⟩
    case round =>
     obtain ⟨j,kk,oA,BA,LA,cA,pA,aaE,hj,rfl,rfl,hLA,vB,eH,qV,vC,kU⟩:=hrel;obtain ⟨wx,rfl⟩:∃ x:World,x=wr:=⟨_,rfl⟩
     by_cases hj7:j<7
     ·have hk3:kk<=3:=by omega
      go_wp2_with fail
      go_loopw [11,12,13,14,15] (fun a1 a2 a3 a4 a5 wy=>∃ I:Nat,I<=ps.length/\a5 = .int .i64 I/\a1 = .int .i64 ((gvs (ps.take I) kk).length:Int)/\a2 = .int .i64 (gvs (ps.take I) kk).sum/\a3 = .int .i64 (loL (gvs (ps.take I) kk))/\a4 = .int .i64 (hiL (gvs (ps.take I) kk))/\wy=wx) (fun _ _ _ _ a5 _=>ps.length-(intOf a5).toNat)
      case atStart=>exact ⟨0,Nat.zero_le _,rfl,rfl,rfl,rfl,rfl,rfl⟩
      case round =>
       obtain ⟨I,hI,rfl,rfl,rfl,rfl,rfl,rfl⟩:=hrel;obtain ⟨wx,rfl⟩:∃ x:World,x=wr:=⟨_,rfl⟩
       obtain ⟨b1,b2⟩:=UH HR.out.sm kk I;have b3:=No _ b2;by_cases qR:I<ps.length
       ·have o9:(I:Int)<(ps.length:Int):=by omega
        obtain ⟨p,jb⟩:∃ p,ps[I]? = some p:=⟨_,List.getElem?_eq_getElem qR⟩
        obtain ⟨gm,hBm,_,d0,d1⟩:=HR.out.at jb;have d0:=kU.cell d0 fun h=>h;have d1:=kU.cell d1 fun h=>h;have hp3:=(HR.out.sm p (List.mem_of_getElem? jb)).2;have htk:=ZdR jb kk;have hlo:=ZfO (gvs (ps.take I) kk) p.2;have hhi:=ZfP (gvs (ps.take I) kk) p.2;have hne0:gvs (ps.take I) kk=[]↔(gvs (ps.take I) kk).length=0:=List.length_eq_zero_iff.symm;have hln:(gvs (ps.take I) kk++[p.2]).length=(gvs (ps.take I) kk).length+1:=by simp
        have hsu:(gvs (ps.take I) kk++[p.2]).sum=(gvs (ps.take I) kk).sum+p.2:=by simp [List.sum_append]
        obtain ⟨p1,p2⟩:=p;subst hBm;by_cases hpk1:p1=kk
        ·rw [if_pos hpk1] at htk;rw [<- htk] at hlo hhi hln hsu;obtain ⟨V',hV'⟩:∃ x,x=gvs (ps.take (I+1)) kk:=⟨_,rfl⟩
         rw [<- hV'] at hlo hhi hln hsu;have HV:=Hd hV';obtain ⟨V,hV⟩:∃ x,x=gvs (ps.take I) kk:=⟨_,rfl⟩
         rw [<- hV] at hlo hhi hln hsu b1 b3 hne0 ⊢;obtain ⟨N,hN⟩:∃ x,x=V.length:=⟨_,rfl⟩
         obtain ⟨M,hM⟩:∃ x,x=V.sum:=⟨_,rfl⟩
         obtain ⟨A1,hA1⟩:∃ x,x=loL V:=⟨_,rfl⟩
         obtain ⟨A2,hA2⟩:∃ x,x=hiL V:=⟨_,rfl⟩
         rw [<- hN] at hln b1 b3 hne0 ⊢;rw [<- hM] at hsu b3 ⊢;rw [<- hA1] at hlo ⊢;rw [<- hA2] at hhi ⊢;have hwN:IntKind.i64.wrap ((N:Int)+1)=(N:Int)+1:=IntWalk.i64_in _ (by omega);have hwM:IntKind.i64.wrap (M+p2)=M+p2:=IntWalk.i64_in _ (by omega);have hE:p1=kk:=hpk1;subst hE;clear htk hV' hV hN hM hA1 hA2 hpk1 jb b2;by_cases h0:N=0
         ·subst h0;have l9:=hne0.2 rfl;rw [if_pos (.inl l9)] at hlo hhi;have jc:=Hd (And.intro (And.intro hlo hhi) (And.intro hln hsu));clear hlo hhi hln hsu l9 hne0
          go_wp2_with fail
          go_roundw
          case rel=>exact ⟨I+1,by omega,by go_num,by rw [<- HV.out,jc.out.2.1]; rfl,by rw [<- HV.out,jc.out.2.2],by rw [<- HV.out,jc.out.1.1],by rw [<- HV.out,jc.out.1.2],trivial⟩
          case measure=>simp [intOf]; omega
         ·have l9:¬ V=[]:=fun e=>h0 (hne0.1 e);have h0':¬ (N:Int)=0:=by omega
          have hN0:((N:Int)==0)=false:=by rw [beq_eq_false_iff_ne]; exact h0'
          have e1:loL V'=if p2<A1 then p2 else A1:=by rw [hlo]; simp [l9]
          have e2:hiL V'=if A2<p2 then p2 else A2:=by rw [hhi]; simp [l9]
          clear hlo hhi hne0 l9 h0;by_cases g1:p2<A1 <;> by_cases g2:A2<p2
          all_goals
           simp only [g1,g2,if_true,if_false] at e1 e2;have jc:=Hd (And.intro (And.intro e1 e2) (And.intro hln hsu));clear e1 e2 hln hsu
           go_wp2_with fail
           go_roundw
           case rel=>exact ⟨I+1,by omega,by go_num,by rw [<- HV.out,jc.out.2.1]; rfl,by rw [<- HV.out,jc.out.2.2],by rw [<- HV.out,jc.out.1.1],by rw [<- HV.out,jc.out.1.2],trivial⟩
           case measure=>simp [intOf]; omega
        ·rw [if_neg hpk1] at htk;have qW:=Hd htk;have aaF:(p1==kk)=false:=by rw [beq_eq_false_iff_ne]; exact hpk1
         clear htk hlo hhi hln hsu hne0 jb b2
         go_wp2_with fail
         go_roundw
         case rel=>exact ⟨I+1,by omega,by go_num,by rw [qW.out],by rw [qW.out],by rw [qW.out],by rw [qW.out],trivial⟩
         case measure=>simp [intOf]; omega
       ·have o9:¬ (I:Int)<(ps.length:Int):=by omega
        have hIe:ps.take I=ps:=List.take_of_length_le (by omega);rw [hIe] at b1 b2 b3 ⊢;have hsucc:=Zbs ps j (kk:=kk) (by omega);obtain ⟨V,hV⟩:∃ x,x=gvs ps kk:=⟨_,rfl⟩
        rw [<- hV] at b1 b2 b3 hsucc ⊢;have hne0:V=[]↔V.length=0:=List.length_eq_zero_iff.symm;obtain ⟨N,hN⟩:∃ x,x=V.length:=⟨_,rfl⟩
        obtain ⟨M,hM⟩:∃ x,x=V.sum:=⟨_,rfl⟩
        obtain ⟨A1,hA1⟩:∃ x,x=loL V:=⟨_,rfl⟩
        obtain ⟨A2,hA2⟩:∃ x,x=hiL V:=⟨_,rfl⟩
        have htold:YR kk V=[kk,(N:Int),M,A1,A2].map vlI:=by rw [hN,hM,hA1,hA2]; rfl
        rw [htold] at hsucc;rw [<- hN] at hne0 ⊢;rw [<- hM,<- hA1,<- hA2];have pF:=Hd hsucc;have pG:=Hd hne0;clear hsucc hne0 hN hM hA1 hA2 htold b2 b3 hIe hV;by_cases h0:0<N
        ·have h0':(0:Int)<(N:Int):=by omega
         have hax:=(Chg.refl (fun _=>False) wx).alloc (.cells #[.int .i64 kk,.int .i64 (N:Int),.int .i64 M,.int .i64 A1,.int .i64 A2] 2);have hnew:=heap_alloc_new wx (.cells #[.int .i64 kk,.int .i64 (N:Int),.int .i64 M,.int .i64 A1,.int .i64 A2] 2)
         have iq:=UD (w:=wx.alloc (.cells #[.int .i64 kk,.int .i64 (N:Int),.int .i64 M,.int .i64 A1,.int .i64 A2] 2)) (b:=wx.heap.size) (cap:=5) (l:=[kk,(N:Int),M,A1,A2]) (fun i x hi=>by
          rw [cell_of_row _ _ _ _ _ _ hnew]
          match i,hi with
          | 0,hi=>cases hi; rfl
          | 1,hi=>cases hi; rfl
          | 2,hi=>cases hi; rfl
          | 3,hi=>cases hi; rfl
          | 4,hi=>cases hi; rfl
          | i+5,hi=>simp at hi) (by simp)
         clear hnew
         go_wp2_with fail
         refine iq.mono ?_;rintro _ wA ⟨ra,rfl,hra,hA⟩;have pI:=hra;obtain ⟨RA,mf,rfl,_⟩:=hra;have HRA:=Hd pI;have hall:=hax.trans hA fun _ _ h=>h;have hab:=(Chg.refl (fun _=>False) wA).alloc (.cells #[.slice RA 5 mf,.complex .f64 (fl 1) (fl 0)] 59);have bQ:=Hd (eH.out.chg (hall.trans hab fun _ _ h=>h) fun _ _ h=>h);have H1:=Hd (CI wA (.slice RA 5 mf) (.complex .f64 (fl 1) (fl 0)) 59);clear pI iq
         go_wp2_with (at_builtin; refine ZA rfl _ _ 45 45 rfl 59 2 40 Vm oA BA LA cA 1 (ZG pA) [.slice RA 5 mf,.complex .f64 (fl 1) (fl 0)] _ rfl rfl bQ.out (XK.slice H1.out) (by simp [Value.oneCell']) (LA+1) rfl (by omega) (by omega) ?_)
         intro Ac BA' cA' w3 hown hor ae;have dM:=Hd hown;clear hown
         go_wp2_with fail
         go_roundw
         case rel =>
          have vD:¬ V=[]:=fun e=>by have:=pG.out.1 e; omega
          have z1:(wx.alloc (.cells #[.int .i64 kk,.int .i64 (N:Int),.int .i64 M,.int .i64 A1,.int .i64 A2] 2)).heap.size=wx.heap.size+1:=Array.size_push _;have zA:=hA.size;have zB:(wA.alloc (.cells #[.slice RA 5 mf,.complex .f64 (fl 1) (fl 0)] 59)).heap.size=wA.heap.size+1:=Array.size_push _;have zE:=kU.size;have gA:∀ g,oA=some g->g<wx.heap.size:=fun g e=>EZ eH.out g e
          have nA:∀ g,Ac=some g->oA=some g\/g=wA.heap.size+1:=fun g e=>by
           rcases hor with h | h
           ·exact .inl (h▸e)
           ·rw [h] at e; injection e with e; exact .inr (by omega)
          have hw3:Chg (fun b=>oA=some b) wx w3:=((hall.trans hab fun _ _ h=>h).mono fun _ _ h=>h.elim).trans ae fun _ _ h=>h;refine ⟨j+1,kk+1,Ac,BA',LA+1,cA',pA++[(.slice RA 5 mf,⟨[kk,(N:Int),M,A1,A2].map vlI,1,0⟩)],by omega,by omega,by go_num,rfl,by omega,Hd ?_,Hd ?_,Hd fun g hg => ?_,Hd fun p hp => ?_,kU.trans hw3 fun i hi e => ?_⟩
          ·rw [List.map_append,vB.out,pF.out,if_neg vD]; rfl
          ·rw [Jd];exact dM.out
          ·rcases nA g hg with h | h
           ·exact qV.out g h
           ·omega
          ·rcases List.mem_append.1 hp with hp | hp
           ·exact (((vC.out p hp).mono (G:=fun b=>(wE.heap.size<=b/\oA≠some b)/\b<wx.heap.size) fun b hb hl=>⟨hb,hl⟩).chg hw3 fun b hb _ e=>hb.1.2 e).mono fun b hb _=>⟨hb.1.1,fun e=>by
             rcases nA b e with h | h
             ·exact hb.1.2 h
             ·have:=hb.2; omega⟩
           ·rw [List.mem_singleton.1 hp];refine ⟨?_,by simp,by simp,by simp⟩;have hr1:Zm (fun b=>wx.heap.size<b/\b<wA.heap.size) wA (.slice RA 5 mf) ([kk,(N:Int),M,A1,A2].map vlI):=HRA.out.mono fun b hb hl=>⟨by have hb:(wx.alloc (.cells #[.int .i64 kk,.int .i64 (N:Int),.int .i64 M,.int .i64 A1,.int .i64 A2] 2)).heap.size<=b:=hb; omega,hl⟩
            exact ((hr1.chg hab fun _ _ _ h=>h).chg ae fun b hb _ e=>by have:=gA b e; omega).mono fun b hb _=>⟨by omega,fun e=>by
             rcases nA b e with h | h
             ·have:=gA b h; omega
             ·omega⟩
          ·have:=qV.out i e; omega
         case measure=>simp [intOf]; omega
        ·have h0':¬ (0:Int)<(N:Int):=by omega
         go_wp2_with fail
         go_roundw
         case rel =>
          have vD:V=[]:=pG.out.2 (by omega);refine ⟨j+1,kk+1,oA,BA,LA,cA,pA,by omega,by omega,by go_num,rfl,by omega,Hd ?_,eH,qV,vC,kU⟩;rw [vB.out,pF.out,if_pos vD,List.append_nil]
         case measure=>simp [intOf]; omega
     ·have hj:j=7:=by omega
      subst hj;have hk4:kk=4:=by omega
      subst hk4;have aJ:=vB.out;rw [<- HKEY.out] at aJ;have vE:pA.length=LA:=by have h1:=eH.out.1; rw [KX] at h1; omega
      have PM:Zp (fun b=>wE.heap.size<=b) wx (.slice BA LA cA) (Zi (cO Z)):=aJ▸(Zp.My (F:=fun b=>wE.heap.size<=b) (eH.out.cs.mono fun g hg _=>qV.out g hg) vE.symm eH.out.fits eH.out.WG fun p hp=>(vC.out p hp).mono fun b hb _=>hb.1);have SA:=Hd PM;have hAx:=HST.out.Zf kU (fun _ _ h=>h) fun _ _ h=>h;have hcx:=hcw.trans kU fun _ _ h=>h;clear PM aJ
      go_wp2_with fail
      refine (Zit o6 hAx).mono ?_;rintro _ w7 ⟨sv,rfl,hset,pJ⟩;have dV:Chg (fun _=>False) w w7:=hcx.trans pJ fun i hi h=>by have:=HR.out.low i h.1; omega
      have PM:=SA.out.chg pJ fun b hb _ h=>by have:=h.2; omega
      have eU:=UE hset PM;clear PM hset
      go_wp2_with fail
      refine eU.mono ?_;rintro _ v3 ⟨rfl,hc3⟩
      go_wp2_with fail
      refine (haw _).mono ?_;rintro _ v5 ⟨rfl,bK⟩
      go_wp2_with fail
      go_ret
      exact ⟨rfl,(dV.trans hc3 fun _ _ h=>h).trans bK fun _ _ h=>h⟩
end Ev
namespace Ev
open Go Go.Proofs
noncomputable section
namespace Aw
def x0:Zb:=(vX 53 12721750682382609111719253287628929560559510350085760694781010853206626624441197245399277313392579635576832)
def x1:Zb:=(vX 78 20443065161098384860209130562291368547662840677452291927971911881341687252473881058453237447322172058619565440678469734118862894936915468778086895837454613355801083904)
def x2:Zb:=(vX 61 1960712239413556518749078970664662811092682352153757563955377504634313096499494328172855002827337622488887490782307077532674649873114338426880)
def x3:Zb:=(vX 86 3150743091357885622466308837191770890642928195303893346220514622984810769437259592429553189335241018369345115602363850948685383196873674042536770842112689124553770998090851246663493133522501199785361408)
def x4:Zb:=(vX 5 500069396323)
def x5:Zb:=(vX 30 284089292896909053021699801486181405582082790347143928726239583268923176)
def x6:Zb:=(vX 112 3414023389634485388421421406248234863078144736112157952970156746106243780406004679508634449555833989572822378237849738628550762131475651691433229655865808966863377391555582772383398797192728574948099330039810609426046489297305892983570824167424)
def x7:Zb:=(vX 137 5486124068793688683404637942034987576354199008750477849261336583201597069684712030235997565764154085455389875117527034485612252647688972274911677225265808465854270267900208612332545375615337698721707722472075578782823217924127446800187588313795416721149865711716056513875765037049810985723554680335761408)
def x8:Zb:=(vX 25 6277101735386680764176071790128604879584176795969512275970)
def b0:Zd:=bC [(vI 0),(vX 0 0),.Za,(vI 0),(vX 0 0),.Za,(vI 0),(vX 0 0),.Za,(vI 0),(vX 0 0),.Za,(vI 0),(vX 0 0),.Za,.Za] 0
def b1:Zd:=bC [(vP 2 0),(vP 0 0)] 0
def b2:Zd:=bC [.Za,(vL 14 0 3),(.iface 186 (vP 0 0))] 0
def b3:Zd:=bC [(vL 128 0 50),(vI 50)] 0
def b4:Zd:=bC [(vP 2 0),(vI 0),(vP 3 0),(vI 0),vT,(vI 50),(vI 1),(vP 16 0),(vP 19 0),(vP 18 0),(vI 0),(vM 20),(vI 0),(vI 0),(vI 0),.Zk,(vX 0 0),.Za,
 (vI 0),(vI 0),.Zk,(vI 0),(vI 0),(vI 0),vF] 0
def b5:Zd:=bC [(vL 242 0 50),(vI 50)] 0
def b6:Zd:=bC [(vP 2 0),(vI 1),(vP 7 0),(vI 0),vT,(vI 50),(vI 1),(vP 130 0),(vP 133 0),(vP 132 0),(vI 0),(vM 134),(vI 0),(vI 0),(vI 0),.Zk,(vX 0 0),.Za,
 (vI 0),(vI 0),.Zk,(vI 0),(vI 0),(vI 0),vF] 0
def b7:Zd:=bC [(vL 356 0 50),(vI 50)] 0
def b8:Zd:=bC [(vP 2 0),(vI 2),(vP 11 0),(vI 0),vT,(vI 50),(vI 1),(vP 244 0),(vP 247 0),(vP 246 0),(vI 0),(vM 248),(vI 0),(vI 0),(vI 0),.Zk,(vX 0 0),.Za,
 (vI 0),(vI 0),.Zk,(vI 0),(vI 0),(vI 0),vF] 0
def b9:Zd:=bO [(vP 4 0),(vP 8 0),(vP 12 0)] 1
def b10:Zd:=bC [(vI 0),(vI 0),(vM 15),(vI 0)] 0
def b11:Zd:=bC [(vM 17),(vI 0)] 0
def b12:Zd:=bC [(vI 0),(vI 3),(vI 0),(vI 0),(vI 0),(vI 0),.Zk,.Zk,.Zk] 0
def b13:Zd:=bZ 50 38707680873383516948918279504135709794145275902319762939253008750918183078068237
def b14:Zd:=bC [(vI 0),(vI 0),(vM 129),(vI 0)] 0
def b15:Zd:=bC [(vM 131),(vI 0)] 0
def b16:Zd:=bC [(vI 1),(vI 3),(vI 0),(vI 0),(vI 0),(vI 0),.Zk,.Zk,.Zk] 0
def b17:Zd:=bC [(vI 0),(vI 0),(vM 243),(vI 0)] 0
def b18:Zd:=bC [(vM 245),(vI 0)] 0
def b19:Zd:=bC [(vI 2),(vI 3),(vI 0),(vI 0),(vI 0),(vI 0),.Zk,.Zk,.Zk] 0
def b20:Zd:=bC [.Za,.Za] 0
def b21:Zd:=bC [(vI 0),(vI 0),(vI 0),(vX 0 0),(vI 0),(vI 0),(vI 0),(vX 0 0),(vI 0),(vI 0),(vI 0),(vX 0 0),(vI 0),(vI 0),(vI 0),(vX 0 0),(vI 0),(vI 0),(vI 0),
 (vX 0 0),(vI 0),(vI 0),(vI 0),(vX 0 0),(vI 0),(vI 0),(vI 0),(vX 0 0),(vI 0),(vI 0),(vI 0),(vX 0 0),(vI 0),(vI 0),(vI 0),(vX 0 0),(vI 0),(vI 0),(vI 0),
 (vX 0 0),(vI 0),(vI 0),(vI 0),(vX 0 0),(vI 0),(vI 0),(vI 0),(vX 0 0),(vI 0),(vI 0),(vI 0),(vX 0 0),(vI 0),(vI 0),(vI 0),(vX 0 0),(vI 0),(vI 0),(vI 0),
 (vX 0 0),(vI 0),(vI 0),(vI 0),(vX 0 0)] 0
def b22:Zd:=bC [(vP 359 0),.Za,(vM 360),(vP 361 0)] 0
def b23:Zd:=bC [(vP 362 0),(vI 0)] 0
def b24:Zd:=bC [(vP 366 0),.Za,(vM 367),(vP 368 0)] 0
def b25:Zd:=bC [(vP 369 0),(vI 0)] 0
def b26:Zd:=bC [(vP 373 0),.Za,(vM 374),(vP 375 0)] 0
def b27:Zd:=bC [(vP 376 0),(vI 0)] 0
def b28:Zd:=bC [(vL 701 0 2),(vL 14 0 3),(.iface 186 (vP 0 0))] 0
def b29:Zd:=bC [(vP 2 0),(vI 0),(vP 3 0),(vI 0),vT,(vI 50),(vI 1),(vP 16 0),(vP 19 0),(vP 18 0),(vI 0),(vM 20),(vI 0),(vI 0),(vI 0),.Zk,(vX 0 0),(vL 547 0 1),
 (vI 1),(vI 1),(vM 551),(vI 0),(vI 0),(vI 0),vF] 0
def b30:Zd:=bC [(vI 0),(vI 3),(vI 1),(vI 1),(vI 0),(vI 0),(vM 553),(vM 554),(vM 555)] 0
def b31:Zd:=bO [(vI 0),(vI 1),(vI 1),vF,x0,(vJ 0)] 6
def b32:Zd:=bZ 33 1606938044258990275541962092341162602522202993782792835301633
def b33:Zd:=bO [(vI 0),(vI 1),(vL 627 0 33),(vI 0),(vI 2),(vL 699 0 33)] 3
def b34:Zd:=bC [(vI 0),(vX 0 0),(vL 1964 0 1),(vI 0),(vX 0 0),(vL 2180 0 1),(vI 0),(vX 0 0),(vL 2260 0 1),(vI 0),(vX 0 0),.Za,(vI 0),(vX 0 0),.Za,
 .Za] 0
def b35:Zd:=bC [(vL 1500 0 0),(vL 14 0 3),(.iface 186 (vP 0 0))] 0
def b36:Zd:=bC [(vL 1943 0 225),(vI 204)] 0
def b37:Zd:=bC [(vP 2 0),(vI 0),(vP 3 0),(vI 0),vT,(vI 225),(vI 1),(vP 16 0),(vP 19 0),(vP 18 0),(vI 1),(vM 20),(vI 1),(vI 0),(vI 0),.Zk,(vX 0 0),(vL 1961 0 0),
 (vI 1),(vI 2),(vM 551),(vI 1),(vI 0),(vI 0),vF] 0
def b38:Zd:=bC [(vL 2163 0 225),(vI 204)] 0
def b39:Zd:=bC [(vP 2 0),(vI 1),(vP 7 0),(vI 0),vT,(vI 225),(vI 1),(vP 130 0),(vP 133 0),(vP 132 0),(vI 1),(vM 134),(vI 1),(vI 0),(vI 0),.Zk,(vX 0 0),.Za,
 (vI 0),(vI 0),.Zk,(vI 0),(vI 0),(vI 0),vF] 0
def b40:Zd:=bC [(vL 2243 0 225),(vI 204)] 0
def b41:Zd:=bC [(vP 2 0),(vI 2),(vP 11 0),(vI 0),vT,(vI 225),(vI 1),(vP 244 0),(vP 247 0),(vP 246 0),(vI 1),(vM 248),(vI 1),(vI 0),(vI 0),.Zk,(vX 0 0),
 .Za,(vI 0),(vI 0),.Zk,(vI 0),(vI 0),(vI 0),vF] 0
def b42:Zd:=bM [((vI 0),(.agg [(vI 0),(vI 1),(vI 0),x1]),0)] 1
def b43:Zd:=bC [(vI 1),(vI 0),(vM 15),(vI 1)] 0
def b44:Zd:=bM [((vI 0),x1,0)] 1
def b45:Zd:=bC [(vM 17),(vI 1)] 0
def b46:Zd:=bM [((.agg [(vI 0),(vI 1),(vI 1)]),(.agg [(vI 0),(vI 0)]),0)] 1
def b47:Zd:=bC [(vI 1),(vI 0),(vM 129),(vI 1)] 0
def b48:Zd:=bC [(vM 131),(vI 1)] 0
def b49:Zd:=bC [(vI 1),(vI 3),(vI 1),(vI 0),(vI 0),(vI 0),.Zk,.Zk,.Zk] 0
def b50:Zd:=bC [(vI 1),(vI 0),(vM 243),(vI 1)] 0
def b51:Zd:=bC [(vM 245),(vI 1)] 0
def b52:Zd:=bC [(vI 2),(vI 3),(vI 1),(vI 0),(vI 0),(vI 0),.Zk,.Zk,.Zk] 0
def b53:Zd:=bM [((vI 1),(vI 1),0)] 1
def b54:Zd:=bM [((vI 1),(vI 1),0),((vI 0),(vI 1),1)] 2
def b55:Zd:=bM [((vI 0),(vP 1226 0),0)] 1
def b56:Zd:=bM [((vI 0),(vI 1),0),((vI 1),(vI 1),1),((vI 2),(vI 1),2)] 3
def b57:Zd:=bC [x1,(vM 1225)] 0
def b58:Zd:=bO [(vI 0),(vI 0),.Za,(vI 0),(vI 0),.Za,(vI 0),(vI 0),.Za] 3
def b59:Zd :=
 bZ 225 85850750097941099802753601835055848230950356798910796247073372084067163611578717184851822150403251378629912955931388727444697425495194092801900239563991797499227440499392521580001254097747579384555002881536567308572010890673184087853524866948991305515311577138760325586255272766343110778984800209021532639636200825128390469751361375413332338594392793233125014155170645400244763536718931850788160853867998931012747582559818970521580298687029790248239996036478076367115799862312612112800746016600217115464931227560822439949
def b60:Zd:=bO [(vI 0),(vI 0),(vI 0),vF,(vX 0 0),(vI 0)] 6
def b61:Zd:=bC [(vL 2421 0 1),.Za] 0
def b62:Zd:=bC [(vI 1),(vI 0),(vI 0),(vX 0 0),(vI 0),(vI 0),(vI 0),(vX 0 0),(vI 0),(vI 0),(vI 0),(vX 0 0),(vI 0),(vI 0),(vI 0),(vX 0 0),(vI 0),(vI 0),(vI 0),
 (vX 0 0),(vI 0),(vI 0),(vI 0),(vX 0 0),(vI 0),(vI 0),(vI 0),(vX 0 0),(vI 0),(vI 0),(vI 0),(vX 0 0),(vI 0),(vI 0),(vI 0),(vX 0 0),(vI 0),(vI 0),(vI 0),
 (vX 0 0),(vI 0),(vI 0),(vI 0),(vX 0 0),(vI 0),(vI 0),(vI 0),(vX 0 0),(vI 0),(vI 0),(vI 0),(vX 0 0),(vI 0),(vI 0),(vI 0),(vX 0 0),(vI 0),(vI 0),(vI 0),
 (vX 0 0),(vI 0),(vI 0),(vI 0),(vX 0 0)] 0
def b63:Zd:=bC [(vP 359 0),(vL 2426 0 1),(vM 360),(vP 361 0)] 0
def b64:Zd:=bC [(vP 362 0),(vI 1)] 0
def b65:Zd:=bO [(vX 1 97),(vI 1),(vX 1 99),(vI 1)] 2
def b66:Zd:=bO [(vX 1 117),(vL 2419 0 2)] 2
def b67:Zd:=bO [(vX 1 117),(vL 2424 0 2),.Za] 3
def b68:Zd:=bC [(vL 2603 0 1),.Za] 0
def b69:Zd:=bC [(vP 366 0),(vL 2608 0 1),(vM 367),(vP 368 0)] 0
def b70:Zd:=bC [(vP 369 0),(vI 1)] 0
def b71:Zd:=bO [(vX 1 117),(vL 2601 0 2)] 2
def b72:Zd:=bO [(vX 1 117),(vL 2606 0 2),.Za] 3
def b73:Zd:=bC [(vL 2772 0 1),.Za] 0
def b74:Zd:=bC [(vP 373 0),(vL 2777 0 1),(vM 374),(vP 375 0)] 0
def b75:Zd:=bC [(vP 376 0),(vI 1)] 0
def b76:Zd:=bO [(vX 1 117),(vL 2770 0 2)] 2
def b77:Zd:=bO [(vX 1 117),(vL 2775 0 2),.Za] 3
def b78:Zd:=bC [(vL 1500 0 2),(vL 14 0 3),(.iface 186 (vP 0 0))] 0
def b79:Zd:=bC [(vL 3064 0 358),(vI 358)] 0
def b80:Zd:=bC [(vP 2 0),(vI 0),(vP 3 0),(vI 0),vT,(vI 358),(vI 1),(vP 16 0),(vP 19 0),(vP 18 0),(vI 1),(vM 20),(vI 1),(vI 0),(vI 0),.Zk,(vX 0 0),(vL 1961 0 1),
 (vI 2),(vI 2),(vM 551),(vI 2),(vI 0),(vI 0),vF] 0
def b81:Zd:=bM [((vI 0),(.agg [(vI 0),(vI 1),(vI 0),x1]),0),((vI 1),(.agg [(vI 1),(vI 1),(vI 0),x3]),1)] 2
def b82:Zd:=bC [(vI 1),(vI 0),(vM 15),(vI 2)] 0
def b83:Zd:=bM [((vI 0),(vP 1226 0),0),((vI 1),(vP 2953 0),1)] 2
def b84:Zd:=bO [(vI 0),(vI 1),(vL 3149 0 121),(vI 0),(vI 2),(vL 3225 0 121),(vI 0),(vI 0),.Za] 3
def b85:Zd:=bO [(vI 0),(vI 1),(vI 2),vF,x2,(vI 1)] 6
def b86:Zd:=bM [((vI 0),(vI 1),0)] 1
def b87:Zd:=bC [x3,(vM 2952)] 0
def b88:Zd :=
 bZ 358 34648429757685036596854752068673216952105314234067702452599465309208107977849184228308579732582637768983170523073072438154054723812610502627450776589551061383778005431583037630256077816221036453111748091390940811598653851438616685019349045322266906250583747209469630351234775037559334210277876893179887216560520214140679340615962884867106806699856335550026194244179818195545548137573752310183406026676386006412118749355042303243280904645788797745804571701378479508002454866717136091818799722872129636490576752487819919122328808608520417740768089933228535833350876368473619616552564318994797977135738250508337818058629736860826277987689209241462091839597511775185185843492874854742309777883467489941777269814021073816636508791153599304072186994975101439884756632048914430280858012125808726786235425904683352808772857500068183736925923996765699094347390124045
def b89:Zd :=
 bZ 121 6120850590976092748377483305493787096064262016104632756702253792994757928034096634179701860805749230946871538231575485188101985603840080257584047696951822041535723748322680415449016218347210947728453117930591782032165495811601263188502726447752506244059758701353462806828466263719674115
def b90:Zd:=bC [(vI 0),(vX 0 0),(vL 3700 0 2),(vI 0),(vX 0 0),(vL 3916 0 2),(vI 0),(vX 0 0),(vL 3996 0 2),(vI 0),(vX 0 0),.Za,(vI 0),(vX 0 0),.Za,
 .Za] 0
def b91:Zd:=bC [(vL 3679 0 379),(vI 358)] 0
def b92:Zd:=bC [(vP 2 0),(vI 0),(vP 3 0),(vI 0),vT,(vI 379),(vI 1),(vP 16 0),(vP 19 0),(vP 18 0),(vI 2),(vM 20),(vI 2),(vI 0),(vI 0),.Zk,(vX 0 0),(vL 3697 0 0),
 (vI 2),(vI 2),(vM 551),(vI 2),(vI 0),(vI 0),vF] 0
def b93:Zd:=bC [(vL 3899 0 379),(vI 358)] 0
def b94:Zd:=bC [(vP 2 0),(vI 1),(vP 7 0),(vI 0),vT,(vI 379),(vI 1),(vP 130 0),(vP 133 0),(vP 132 0),(vI 2),(vM 134),(vI 2),(vI 0),(vI 0),.Zk,(vX 0 0),.Za,
 (vI 0),(vI 0),.Zk,(vI 0),(vI 0),(vI 0),vF] 0
def b95:Zd:=bC [(vL 3979 0 379),(vI 358)] 0
def b96:Zd:=bC [(vP 2 0),(vI 2),(vP 11 0),(vI 0),vT,(vI 379),(vI 1),(vP 244 0),(vP 247 0),(vP 246 0),(vI 2),(vM 248),(vI 2),(vI 0),(vI 0),.Zk,(vX 0 0),
 .Za,(vI 0),(vI 0),.Zk,(vI 0),(vI 0),(vI 0),vF] 0
def b97:Zd:=bM [((vI 0),x1,0),((vI 1),x3,1)] 2
def b98:Zd:=bC [(vM 17),(vI 2)] 0
def b99:Zd:=bM [((.agg [(vI 0),(vI 1),(vI 1)]),(.agg [(vI 0),(vI 0)]),0),((.agg [(vI 0),(vI 1),(vI 2)]),(.agg [(vI 1),(vI 1)]),1)] 2
def qX:Zd:=bC [(vI 1),(vI 0),(vM 129),(vI 2)] 0
def qY:Zd:=bC [(vM 131),(vI 2)] 0
def qZ:Zd:=bC [(vI 1),(vI 0),(vM 243),(vI 2)] 0
def q8:Zd:=bC [(vM 245),(vI 2)] 0
def LF:Zd :=
 bZ 379 292450614112511644070506266937545488954584756431927392965785116160362858076610849554494507876523333260148161310572875008059293021866254541704449083205130431232193537937502261406665412012248807348359347332387354543902897742247467679007595760202475163940072428574974564692826269638608448482831641008510063785222101663598109497169182402754193368822599588710430803687753442932999794728444378699380368408255044847228933277242877102383763998035072874230633351368827005737768342002537249510720831474202851938705790294659563059736302907058535089266233094542105063629628801842698001470341333156097799164702772216565689885069075643016550249546799304793151151757819302284065730259220171953352504086224277487221730401636176112899411606559787389124827447831584910625319963054545535327857276610893158776333728794990226926373924512444841199985057716644011673704249866956785348914640587301468203315945959063565
def PN:Zd:=bO [x0,x2] 1
def Ad:Zd:=bM [((vX 1 118),(vP 5256 0),0)] 1
def mg:Zd:=bC [(vI 2),(vI 0),(vI 0),(vX 0 0),(vI 0),(vI 0),(vI 0),(vX 0 0),(vI 0),(vI 0),(vI 0),(vX 0 0),(vI 0),(vI 0),(vI 0),(vX 0 0),(vI 0),(vI 0),(vI 0),
 (vX 0 0),(vI 0),(vI 0),(vI 0),(vX 0 0),(vI 0),(vI 0),(vI 0),(vX 0 0),(vI 0),(vI 0),(vI 0),(vX 0 0),(vI 0),(vI 0),(vI 0),(vX 0 0),(vI 0),(vI 0),(vI 0),
 (vX 0 0),(vI 0),(vI 0),(vI 0),(vX 0 0),(vI 0),(vI 0),(vI 0),(vX 0 0),(vI 0),(vI 0),(vI 0),(vX 0 0),(vI 0),(vI 0),(vI 0),(vX 0 0),(vI 0),(vI 0),(vI 0),
 (vX 0 0),(vI 0),(vI 0),(vI 0),(vX 0 0)] 0
def Ae:Zd:=bC [(vP 4089 0),(vL 2426 0 1),(vM 360),(vP 361 0)] 0
def Af:Zd:=bC [(vP 362 0),(vI 2)] 0
def vG:Zd:=bC [(vL 4088 0 1),(vL 4777 0 1)] 0
def Vf:Zd:=bO [(vX 1 110),x4,(vX 0 0)] 3
def Vg:Zd:=bO [(vI 1),(vX 1 117),.Za,.Za,.Za,.Za,.Za,.Za] 8
def Vh:Zd:=bO [(vX 1 110),(vI 1)] 2
def vH:Zd:=bO [(vX 1 118),x5,(vI 7),(vX 0 0),.Za,.Za,.Za,.Za,(vL 4176 0 1),(vL 4185 0 1),(vL 4529 0 1)] 11
def vN:Zd:=bO [(vL 5230 0 2)] 1
def Fv:Zd:=bO [x4,(vI 0)] 2
def vO:Zd:=bC [(vP 5281 0),(vL 5267 0 1),(vM 5272)] 0
def vQ:Zd:=bO [(vX 1 117),(vL 5265 0 2)] 2
def Fw:Zd:=bM [((vX 1 117),.Za,0)] 1
def vR:Zd:=bC [(vI 7),(vX 0 0),.Za,.Za,.Za,.Za,(vL 4861 0 1),(vL 4870 0 1),(vL 5254 0 1),(vL 5284 0 1),(vL 5234 0 1),.Za,(vP 5286 0),
 .Zo,.Zo] 0
def vS:Zd:=bC [(vI 1),(vX 1 117),.Za,.Za,.Za,.Za,.Za,.Za,(vL 5230 0 2),.Za,.Za,.Za,.Zo,.Zo,.Zo] 0
def vV:Zd:=bO [(vP 5282 0)] 1
def vY:Zd:=bC [.Za,(vL 5250 0 1),(vM 5285)] 0
def Ag:Zd:=bM [((vX 1 118),(vP 6564 0),0)] 1
def Ah:Zd:=bC [(vP 5397 0),(vL 2608 0 1),(vM 367),(vP 368 0)] 0
def Ai:Zd:=bC [(vP 369 0),(vI 2)] 0
def vZ:Zd:=bC [(vL 5396 0 1),(vL 6085 0 1)] 0
def wh:Zd:=bO [(vX 1 118),x5,(vI 7),(vX 0 0),.Za,.Za,.Za,.Za,(vL 5484 0 1),(vL 5493 0 1),(vL 5837 0 1)] 11
def wm:Zd:=bO [(vL 6538 0 2)] 1
def wo:Zd:=bC [(vP 6589 0),(vL 6575 0 1),(vM 6580)] 0
def wu:Zd:=bO [(vX 1 117),(vL 6573 0 2)] 2
def wF:Zd:=bC [(vI 7),(vX 0 0),.Za,.Za,.Za,.Za,(vL 6169 0 1),(vL 6178 0 1),(vL 6562 0 1),(vL 6592 0 1),(vL 6542 0 1),.Za,(vP 6594 0),
 .Zo,.Zo] 0
def wG:Zd:=bC [(vI 1),(vX 1 117),.Za,.Za,.Za,.Za,.Za,.Za,(vL 6538 0 2),.Za,.Za,.Za,.Zo,.Zo,.Zo] 0
def wH:Zd:=bO [(vP 6590 0)] 1
def wI:Zd:=bC [.Za,(vL 6558 0 1),(vM 6593)] 0
def Aj:Zd:=bM [((vX 1 118),(vP 7861 0),0)] 1
def Ak:Zd:=bC [(vP 6694 0),(vL 2777 0 1),(vM 374),(vP 375 0)] 0
def Am:Zd:=bC [(vP 376 0),(vI 2)] 0
def wJ:Zd:=bC [(vL 6693 0 1),(vL 7382 0 1)] 0
def wK:Zd:=bO [(vX 1 118),x5,(vI 7),(vX 0 0),.Za,.Za,.Za,.Za,(vL 6781 0 1),(vL 6790 0 1),(vL 7134 0 1)] 11
def wL:Zd:=bO [(vL 7835 0 2)] 1
def wM:Zd:=bC [(vP 7886 0),(vL 7872 0 1),(vM 7877)] 0
def wN:Zd:=bO [(vX 1 117),(vL 7870 0 2)] 2
def wO:Zd:=bC [(vI 7),(vX 0 0),.Za,.Za,.Za,.Za,(vL 7466 0 1),(vL 7475 0 1),(vL 7859 0 1),(vL 7889 0 1),(vL 7839 0 1),.Za,(vP 7891 0),
 .Zo,.Zo] 0
def wP:Zd:=bC [(vI 1),(vX 1 117),.Za,.Za,.Za,.Za,.Za,.Za,(vL 7835 0 2),.Za,.Za,.Za,.Zo,.Zo,.Zo] 0
def wQ:Zd:=bO [(vP 7887 0)] 1
def wR:Zd:=bC [.Za,(vL 7855 0 1),(vM 7890)] 0
def Ao:Zd:=bC [(vL 8376 0 563),(vI 563)] 0
def Ap:Zd:=bC [(vP 2 0),(vI 0),(vP 3 0),(vI 0),vT,(vI 563),(vI 1),(vP 16 0),(vP 19 0),(vP 18 0),(vI 2),(vM 20),(vI 2),(vI 0),(vI 0),.Zk,(vX 0 0),(vL 3697 0 1),
 (vI 3),(vI 2),(vM 551),(vI 3),(vI 0),(vI 0),vF] 0
def Ra:Zd:=bM [((vI 0),(.agg [(vI 0),(vI 1),(vI 0),x1]),0),((vI 1),(.agg [(vI 1),(vI 1),(vI 0),x3]),1),((vI 2),(.agg [(vI 2),(vI 1),(vI 0),x7]),2)] 3
def mh:Zd:=bC [(vI 1),(vI 0),(vM 15),(vI 3)] 0
def UI:Zd:=bM [((vI 0),(vP 1226 0),0),((vI 1),(vP 2953 0),1),((vI 2),(vP 8265 0),2)] 3
def Aq:Zd:=bO [(vI 0),(vI 1),(vL 8461 0 172),(vI 0),(vI 2),(vL 8537 0 172),(vI 0),(vI 0),.Za] 3
def wS:Zd:=bO [(vI 0),(vI 1),(vI 3),vF,x6,(vI 2)] 6
def UJ:Zd:=bC [x7,(vM 8264)] 0
def Ar:Zd :=
 bZ 563 4461602222316868967332862690901365226801389257376444293766170904353918628820283045476791995958210303123655466536408791804266693221772897635995216234641396140368462160384550575211855617218607446215010333530659053193538050059463952349949937728804555488531784215731908103312027864588837795918510108455828560462802979540794729319704055357013392973313384216615433807131785089458039490060088247632407879965965238215562926974393709679153532081331118165999303796670447738131621093485476744842839465567071928809967933069684824827458674748896337620552086907003656930684504976913099158324437427658937751104843724158664202891614465382679977071609842633519860609438312513916901342551610628469128789348716615205439155930281517893295880829175385028712863119499766279669580042519659158667029810629806031169154635218828616802544921021118036084066259638776918581395385849671852631626981273030502934363312961201268831225906970548512309482057375600121131929891998156681686673204150103189785175722416959333409741947148757892143284471656430654923206198612495153817155598913796929925586558641274261676824981406023640164395499036690256930305561441587449331374570607281870785974582248302545468536452484975161817377289871074304006782807804427839903001661335575679825136069535963810633042047092217564881807116767031302330701752989053901547258095082508648461
def mo:Zd :=
 bZ 172 10657722567336344660180324244252169908983478678315767402457921035736041686532360589576361952810234459470555813641293817756430887207849714397794099388363976681745778542057746915237163032206932420886381864266133558560829844684142775606877300185421032213324993067349101663227710622495574776146416382200691744369855739731675494134801816093564981990053195102643614473638739213023414927631581443
def pK:Zd:=bC [(vI 0),(vX 0 0),(vL 9012 0 3),(vI 0),(vX 0 0),(vL 9228 0 3),(vI 0),(vX 0 0),(vL 9308 0 3),(vI 0),(vX 0 0),.Za,(vI 0),(vX 0 0),.Za,
 .Za] 0
def q9:Zd:=bC [(vL 8991 0 584),(vI 563)] 0
def rC:Zd:=bC [(vP 2 0),(vI 0),(vP 3 0),(vI 0),vT,(vI 584),(vI 1),(vP 16 0),(vP 19 0),(vP 18 0),(vI 3),(vM 20),(vI 3),(vI 0),(vI 0),.Zk,(vX 0 0),(vL 9009 0 0),
 (vI 3),(vI 2),(vM 551),(vI 3),(vI 0),(vI 0),vF] 0
def rD:Zd:=bC [(vL 9211 0 584),(vI 563)] 0
def rE:Zd:=bC [(vP 2 0),(vI 1),(vP 7 0),(vI 0),vT,(vI 584),(vI 1),(vP 130 0),(vP 133 0),(vP 132 0),(vI 3),(vM 134),(vI 3),(vI 0),(vI 0),.Zk,(vX 0 0),.Za,
 (vI 0),(vI 0),.Zk,(vI 0),(vI 0),(vI 0),vF] 0
def rF:Zd:=bC [(vL 9291 0 584),(vI 563)] 0
def Au:Zd:=bC [(vP 2 0),(vI 2),(vP 11 0),(vI 0),vT,(vI 584),(vI 1),(vP 244 0),(vP 247 0),(vP 246 0),(vI 3),(vM 248),(vI 3),(vI 0),(vI 0),.Zk,(vX 0 0),
 .Za,(vI 0),(vI 0),.Zk,(vI 0),(vI 0),(vI 0),vF] 0
def PO:Zd:=bM [((vI 0),x1,0),((vI 1),x3,1),((vI 2),x7,2)] 3
def rG:Zd:=bC [(vM 17),(vI 3)] 0
def PQ:Zd:=bM [((.agg [(vI 0),(vI 1),(vI 1)]),(.agg [(vI 0),(vI 0)]),0),((.agg [(vI 0),(vI 1),(vI 2)]),(.agg [(vI 1),(vI 1)]),1),((.agg [(vI 0),(vI 1),(vI 3)]),
 (.agg [(vI 2),(vI 2)]),2)] 3
def rH:Zd:=bC [(vI 1),(vI 0),(vM 129),(vI 3)] 0
def rJ:Zd:=bC [(vM 131),(vI 3)] 0
def rM:Zd:=bC [(vI 1),(vI 0),(vM 243),(vI 3)] 0
def rO:Zd:=bC [(vM 245),(vI 3)] 0
def PR:Zd :=
 bZ 584 28330435887867927798340893461431596905552639326055521857053604898129722651023065958346484459525520777628896749550169261497326987712314968774583153917459365003643968572798722072610955225695237698448723766348264908904333343987512612312427032990090344830767314381850486365873167831092867718821970754340078934538624836600213063635420971867190794953900055316166400075550744565122453611034233593810244709100334098708126336089912131243878058935460495880840929569006844971978454196404426502248915505373403465643094854876025398147246786237701180994634717402483052263660246480207033133653680444421797910401471199581686413795989667960583668817560144145579655345955686688588165263566144681341421517389794941509125307170558206711205138966345950038781680337636270082157597379617785177176159792612588215187065444996116913113496889056848983562787224081748174483793698820738894295280249416407716335544506390527236393367557708712923798723208149658842668870139119130314413006815433429288688991945959179965029592901105239604094047311769466130315939067871998136887653135143985886632779840686327350989088549234083457292078980364491609701765427261382635924859262510131639301305280358521048209766197440161324917239659443045658315690446331981873354091545575766687176523030279525407637273789242355624611868843257158395787018005278892802933564421734645131433784455908513469819326174201331604236059691328033909637133
def Tk:Zd:=bO [x0,x2,x6] 1
def wT:Zd:=bC [(vI 3),(vI 0),(vI 0),(vX 0 0),(vI 0),(vI 0),(vI 0),(vX 0 0),(vI 0),(vI 0),(vI 0),(vX 0 0),(vI 0),(vI 0),(vI 0),(vX 0 0),(vI 0),(vI 0),(vI 0),
 (vX 0 0),(vI 0),(vI 0),(vI 0),(vX 0 0),(vI 0),(vI 0),(vI 0),(vX 0 0),(vI 0),(vI 0),(vI 0),(vX 0 0),(vI 0),(vI 0),(vI 0),(vX 0 0),(vI 0),(vI 0),(vI 0),
 (vX 0 0),(vI 0),(vI 0),(vI 0),(vX 0 0),(vI 0),(vI 0),(vI 0),(vX 0 0),(vI 0),(vI 0),(vI 0),(vX 0 0),(vI 0),(vI 0),(vI 0),(vX 0 0),(vI 0),(vI 0),(vI 0),
 (vX 0 0),(vI 0),(vI 0),(vI 0),(vX 0 0)] 0
def PS:Zd:=bO [(vI 1),(vI 1),(vX 0 0),(vI 1),(vI 1),(vX 0 0)] 3
def PT:Zd:=bO [(vI 1),(vI 1),(vX 0 0),(vI 1),(vI 2),(vX 0 0)] 3
def mq:Zd:=bO [(vI 1),(vI 2),(vX 0 0)] 3
def Av:Zd:=bC [(vP 2 0),(vI 2),(vP 11 0),(vI 0),vT,(vI 584),(vI 1),(vP 244 0),(vP 247 0),(vP 246 0),(vI 3),(vM 248),(vI 3),(vI 0),(vI 0),.Zk,(vX 0 0),
 (vL 10370 0 1),(vI 1),(vI 1),(vM 10374),(vI 0),(vI 0),(vI 0),vF] 0
def wU:Zd:=bC [(vI 2),(vI 3),(vI 2),(vI 2),(vI 2),(vI 3),(vM 10376),(vM 10377),(vM 10378)] 0
def Ay:Zd:=bO [(vI 2),(vI 0),(vL 10450 0 33),(vI 2),(vI 1),(vL 10521 0 33),(vI 0),(vI 0),.Za] 3
def Az:Zd:=bO [(vI 2),(vI 1),(vI 1),vT,(vX 1 49),(vJ 0)] 6
def mr:Zd:=bZ 33 1606938044258990275803298950136443342471519425256130112127489
def wV:Zd:=bM [((vI 0),(.agg [(vI 0),(vI 1),(vI 0),x1]),0),((vI 1),(.agg [(vI 1),(vI 1),(vI 0),x3]),1),((vI 2),(.agg [(vI 2),(vI 1),(vI 0),x7]),2),((vI 3),
 (.agg [(vI 3),(vI 2),(vI 2),x8]),3)] 4
def wW:Zd:=bM [((vI 0),x1,0),((vI 1),x3,1),((vI 2),x7,2),((vI 3),x8,3)] 4
def xe:Zd:=bM [((.agg [(vI 0),(vI 1),(vI 1)]),(.agg [(vI 0),(vI 0)]),0),((.agg [(vI 0),(vI 1),(vI 2)]),(.agg [(vI 1),(vI 1)]),1),((.agg [(vI 0),(vI 1),(vI 3)]),
 (.agg [(vI 2),(vI 2)]),2),((.agg [(vI 2),(vI 1),(vI 1)]),(.agg [(vI 3),(vJ 0)]),3)] 4
def xg:Zd :=
 bZ 706 27009097740359415128432377222136051684277189733185318236012612022053096602987091206349426902458125967557986061886852421139118011672587690777186127181354206251588593608366907538021048143622320298477653547342176327944784795066121804344660016436679029238538807577302262449652219335483090183489410925624482028807043344773418780722031440872120699880423236292410361192756307816476656802211731394200261238678728187935497567679623004404132113665090286097809336687857322485889492223525744092610715360619802567863768865447705754399005420108901466834731417802979286409854887711791905525230611113571752249451188964067314721767475843825553621218209042641586191074980525312613734825795129995463703164113731071259845546212854301510218143130324839106404236049794549188560902341163378292509864598676013142307130946343237742684123487534536579317970497205158426308012774800941362380779745122383877048218732214780549997183669168942196273090190039405923504981952988132312521447569769137362191990075350097208089637953345028996788759738667177902665637043369807713331657299715916933722096866095554444751635784782948122090574816759656113579738880952680622673140201229770493673545762814517591856598930667796256560877111782655868390164135058518365595081873459951942882721176421711688994162313566426227124861959543714082527645037884829561104793840848814422412605244744131009712612742615206438878131985704455018210336298808463312319299026892158031163952167933279394458082738477120592415866959339230109232416084033583227957484242548537340901357872629163585045796859059029270936643551419288422923329066239596783721375167356249937712485988324153323400585881416914232523613592112453192888776232991955682598252969997
def p0:Ent:=⟨97,[(vX 30 284089292896909053021699801486181405582082790347143928726239583268923176)],
 [],
 0,(.tuple [(.agg [(vI 7),(vX 0 0),.Za,.Za,.Za,.Za,(vL 83 0 1),(vL 92 0 1)]),(vI 0),(vI 0)]),
 [(83,bO [(vX 1 110),(vX 5 500069396323),(vX 0 0)] 3),(92,bO [(vI 1),(vX 1 117),.Za,.Za,.Za,.Za,.Za,.Za] 8)],165⟩
def PL:List (Nat×Orc):=[(97,upO [p0])]
def BP:YG:={ fn:=fun f=>fnT.get f,Zf:=Vu,reg:=fun _ _=>none,orc:=fun f=>(Z8 (OL++PL) .lf).get f }
end Aw
end
end Ev
end Go.Proofs.YtheflbaejhlboaaGreatDoor
