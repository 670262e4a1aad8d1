/- A part of the proof of a law of package confluencetop: lemmas, no condition of ours. -/
import Derived.WalkKit
import Derived.Lib.Hide
import Derived.Lib.AppendStr
import Derived.Laws.CopyOwn
import Derived.Deep.Draws
import Derived.KernelRfl
import Derived.Deep.RegionHeld3
import Derived.Test.YtheflbaejhlboaaGreatDoorProg
import GoSem.Core.Float
import GoSem.Op.FloatCmp
import GoSem.Op.Equal
set_option linter.unusedVariables false
set_option linter.unusedSectionVars false
set_option linter.unusedSimpArgs false
namespace Go.Proofs.YtheflbaejhlboaaGreatDoor
open Go.RowKit
structure Chg (T:Nat→Prop) (w w':World):Prop where
 os:w'.os=w.os
 tape:w'.tape=w.tape
 output:w'.output=w.output
 size:w.heap.size≤w'.heap.size
 block:∀ k,k<w.heap.size→¬ T k→w'.heap[k]? = w.heap[k]?
namespace Chg
variable {T T':Nat→Prop} {a b c w w':World}
theorem refl (T:Nat→Prop) (w:World):Chg T w w:=⟨rfl,rfl,rfl,Nat.le_refl _,fun _ _ _=>rfl⟩
theorem trans (h:Chg T a b) (k:Chg T' b c) (hs:∀ i,i<a.heap.size→T' i→T i):Chg T a c :=
 ⟨k.os.trans h.os,k.tape.trans h.tape,k.output.trans h.output,Nat.le_trans h.size k.size,
  fun i hi hn=>(k.block i (Nat.lt_of_lt_of_le hi h.size) (fun ht=>hn (hs i hi ht))).trans (h.block i hi hn)⟩
theorem mono (h:Chg T a b) (hs:∀ i,i<a.heap.size→T i→T' i):Chg T' a b :=
 ⟨h.os,h.tape,h.output,h.size,fun i hi hn=>h.block i hi fun ht=>hn (hs i hi ht)⟩
theorem drew (h:Chg T a w):Chg T a w.drew:=⟨h.os,h.tape,h.output,h.size,h.block⟩
theorem drewN (h:Chg T a w) (n:Nat):Chg T a (w.drewN n):=⟨h.os,h.tape,h.output,h.size,h.block⟩
theorem alloc (h:Chg T a w) (o:Obj):Chg T a (w.alloc o) :=
 h.trans (T':=T) ⟨rfl,rfl,rfl,by simp,fun k hk _=>by
  show (w.heap.push o)[k]? = _
  rw [Array.getElem?_push,if_neg (Nat.ne_of_lt hk)]⟩ fun _ _ ht=>ht
theorem setCell (h:Chg T a w) {p:Addr} (hp:T p.block∨a.heap.size≤p.block) (u:Value):Chg T a (w.setCell p u) :=
 h.trans (T':=fun k=>k=p.block) ⟨rfl,rfl,rfl,by simp,fun k _ hn=>heap_setCell_other w p k u hn⟩ fun i hi ht=>by
  rcases hp with hp | hp
  ·rw [ht]; exact hp
  ·omega
theorem setRow (h:Chg T a w) {g:Nat} (hp:T g∨a.heap.size≤g) (cs:Array Value):Chg T a (w.setRow g cs) :=
 h.trans (T':=fun k=>k=g) ⟨rfl,rfl,rfl,by simp,fun k _ hn=>setRow_other w g k cs hn⟩ fun i hi ht=>by
  rcases hp with hp | hp
  ·rw [ht]; exact hp
  ·omega
theorem grown {row:Option Nat} (h:Chg T a w) (hg:w.grownBy w' row) (hr:∀ k,row=some k→T k∨a.heap.size≤k):Chg T a w' :=
 h.trans (T':=fun k=>row=some k) ⟨hg.os,hg.tape,hg.output,hg.size,fun k hk hn=>hg.block k hk (fun e=>hn e.symm)⟩ fun i hi ht=>by
  rcases hr i ht with h1 | h1
  ·exact h1
  ·omega
theorem below (h:Chg T w w') {B:Nat} (hB:B≤w.heap.size) (ht:∀ k,k<B→¬ T k):Below B w w' :=
 ⟨h.os,h.tape,h.output,h.size,fun k hk=>h.block k (Nat.lt_of_lt_of_le hk hB) (ht k hk)⟩
theorem ZgU {B:Nat} (h:Below B w w'):Chg (fun k=>B≤k) w w' :=
 ⟨h.os,h.tape,h.output,h.size,fun k _ hn=>h.block k (by omega)⟩
theorem cell (h:Chg T w w') {p:Addr} {u:Value} (hc:w.cell? p=some u) (hn:¬ T p.block):w'.cell? p=some u :=
 (World.cell?_of_block (w:=w) (h.block p.block (World.block_lt_of_cell? w p hc) hn)).trans hc
theorem heap (h:Chg T w w') {k:Nat} {o:Obj} (hk:w.heap[k]? = some o) (hn:¬ T k):w'.heap[k]? = some o :=
 (h.block k (lt_of_block hk) hn).trans hk
theorem one (w:World) (p:Addr) (u:Value):Chg (fun k=>k=p.block) w (w.setCell p u):=setCell (T:=fun k=>k=p.block) (refl _ w) (Or.inl (Eq.refl p.block)) u
theorem Jc (h:Chg T a w) {D:Nat} (hD:T D) (j:Nat) (u:Value):Chg T a (w.setCell ⟨D,j,none⟩ u):=h.setCell (p:=⟨D,j,none⟩) (Or.inl hD) u
theorem Zix (h:Chg T a w) {D:Nat} (hD:a.heap.size≤D) (j:Nat) (u:Value):Chg T a (w.setCell ⟨D,j,none⟩ u):=h.setCell (p:=⟨D,j,none⟩) (Or.inr hD) u
end Chg
theorem QN (b o j:Nat):(⟨b,o,none⟩:Addr).add j=⟨b,o+j,none⟩:=by unfold Addr.add; split <;> simp_all
def Cs (w:World) (S:Nat→Prop) (A:Option Addr) (n:Nat) (xs:List Value):Prop :=
 xs.length=n∧(0<n→∃ b off,A=some ⟨b,off,none⟩∧S b∧∀ j u,xs[j]? = some u→w.cell? ⟨b,off+j,none⟩=some u)
namespace Cs
variable {w w':World} {S S' T:Nat→Prop} {A:Option Addr} {n:Nat} {xs:List Value}
theorem chg (h:Cs w S A n xs) (hc:Chg T w w') (hd:∀ k,k<w.heap.size→S k→¬ T k):Cs w' S A n xs :=
 ⟨h.1,fun hn=>by
  obtain ⟨b,off,e,hs,hcell⟩:=h.2 hn
  refine ⟨b,off,e,hs,fun j u hu=>hc.cell (hcell j u hu) ?_⟩
  exact hd b (World.block_lt_of_cell? w _ (hcell j u hu)) hs⟩
theorem mono (h:Cs w S A n xs) (hs:∀ k,k<w.heap.size→S k→S' k):Cs w S' A n xs :=
 ⟨h.1,fun hn=>by
  obtain ⟨b,off,e,h1,hcell⟩:=h.2 hn
  have hl:0<xs.length:=by have:=h.1; omega
  exact ⟨b,off,e,hs b (World.block_lt_of_cell? w _ (hcell 0 _ (List.getElem?_eq_getElem hl))) h1,hcell⟩⟩
theorem drew (h:Cs w S A n xs):Cs w.drew S A n xs:=h
theorem drewN (h:Cs w S A n xs) (k:Nat):Cs (w.drewN k) S A n xs:=h
theorem take (h:Cs w S A n xs) {k:Nat} (hk:k≤n):Cs w S A k (xs.take k) :=
 ⟨by rw [List.length_take,h.1]; omega,fun hn=>by
  obtain ⟨b,off,e,hs,hcell⟩:=h.2 (by omega)
  refine ⟨b,off,e,hs,fun j u hu=>hcell j u ?_⟩
  rw [List.getElem?_take] at hu
  split at hu
  ·exact hu
  ·cases hu⟩
theorem drop (h:Cs w S A n xs) {k cap:Nat} (hk:k≤n) (hc:n≤cap):Cs w S (if cap=k then A else A.map (·.add k)) (n-k) (xs.drop k):=by
 refine ⟨by rw [List.length_drop,h.1],fun hn => ?_⟩
 obtain ⟨b,off,rfl,hs,hcell⟩:=h.2 (by omega)
 rw [if_neg (by omega)]
 refine ⟨b,off+k,by simp [QN],hs,fun j u hu => ?_⟩
 rw [Nat.add_assoc]
 exact hcell _ u (by rw [← hu,List.getElem?_drop])
theorem cellAt (h:Cs w S A n xs) {b off:Nat} (e:A=some ⟨b,off,none⟩) {j:Nat} {u:Value} (hu:xs[j]? = some u):w.cell? ⟨b,off+j,none⟩=some u:=by
 have hl:j<xs.length:=(List.getElem?_eq_some_iff.1 hu).1
 obtain ⟨b',off',e',_,hcell⟩:=h.2 (by have:=h.1; omega)
 rw [e] at e'
 injection e' with e'
 injection e' with e1 e2
 subst e1; subst e2
 exact hcell j u hu
theorem ML {P:Program} (h:Cs w S A n xs) (c:Nat):(Builtin.firstCells 1 n (.slice A n c)).run P w = .ok xs.toArray w:=by
 by_cases hn:0<n
 ·obtain ⟨b,off,rfl,_,hcell⟩:=h.2 hn
  exact run_firstCells_some (P:=P) w 1 n _ n c xs (by rw [h.1,Nat.mul_one]) fun j u hu=>by rw [QN]; exact hcell j u hu
 ·have h0:n=0:=by omega
  subst h0
  have hx:xs=[]:=List.eq_nil_of_length_eq_zero h.1
  subst hx
  cases A <;> simp [Builtin.firstCells,loadCells,loadCellsFrom]
end Cs
def Own (w:World) (e:TypeId) (own:Option Nat) (A:Option Addr) (n cap:Nat) (xs:List Value):Prop :=
 xs.length=n∧n≤cap∧((own=none∧cap=0)∨∃ g cur,own=some g∧A=some ⟨g,0,none⟩∧w.heap[g]? = some (.cells cur e (0,0))∧cap≤cur.size∧cap≤maxLen∧cur.toList.take n=xs)
namespace Own
variable {w w':World} {T:Nat→Prop} {e:TypeId} {own:Option Nat} {A:Option Addr} {n cap:Nat} {xs:List Value}
theorem Ws (w:World) (e:TypeId) (A:Option Addr):Own w e none A 0 0 []:=⟨rfl,Nat.le_refl _,.inl ⟨rfl,rfl⟩⟩
theorem len (h:Own w e own A n cap xs):xs.length=n:=h.1
theorem fits (h:Own w e own A n cap xs):n≤cap:=h.2.1
theorem Kg (h:Own w e own A n cap xs):cap≤9223372036854775807:=by
 rcases h.2.2 with ⟨_,h0⟩ | ⟨_,_,_,_,_,_,hm,_⟩
 ·omega
 ·simpa [maxLen] using hm
theorem lt (h:Own w e own A n cap xs) {g:Nat} (hg:own=some g):g<w.heap.size:=by
 rcases h.2.2 with ⟨h0,_⟩ | ⟨g',cur,h0,_,hh,_⟩
 ·rw [h0] at hg; cases hg
 ·rw [h0] at hg; injection hg with hg; subst hg; exact lt_of_block hh
theorem chg (h:Own w e own A n cap xs) (hc:Chg T w w') (hd:∀ k,own=some k→¬ T k):Own w' e own A n cap xs:=by
 refine ⟨h.1,h.2.1,?_⟩
 rcases h.2.2 with h0 | ⟨g,cur,h0,hA,hh,r⟩
 ·exact .inl h0
 ·exact .inr ⟨g,cur,h0,hA,hc.heap hh (hd g h0),r⟩
theorem drew (h:Own w e own A n cap xs):Own w.drew e own A n cap xs:=h
theorem drewN (h:Own w e own A n cap xs) (k:Nat):Own (w.drewN k) e own A n cap xs:=h
theorem cs (h:Own w e own A n cap xs):Cs w (fun k=>own=some k) A n xs:=by
 refine ⟨h.1,fun hn => ?_⟩
 rcases h.2.2 with ⟨_,h0⟩ | ⟨g,cur,h0,hA,hh,hcs,_,ht⟩
 ·have:=h.2.1; omega
 ·refine ⟨g,0,hA,h0,fun j u hu => ?_⟩
  rw [Nat.zero_add,cell_of_row w g j cur e (0,0) hh]
  rw [← ht,List.getElem?_take] at hu
  split at hu
  ·simpa using hu
  ·cases hu
theorem cells (h:Own w e own A n cap xs) {j:Nat} {u:Value} (hu:xs[j]? = some u):∃ g,own=some g∧A=some ⟨g,0,none⟩∧w.cell? ⟨g,j,none⟩=some u∧w.frozen? ⟨g,j,none⟩=false:=by
 have hl:j<xs.length:=(List.getElem?_eq_some_iff.1 hu).1
 rcases h.2.2 with ⟨_,h0⟩ | ⟨g,cur,h0,hA,hh,hcs,_,ht⟩
 ·have:=h.2.1; have:=h.1; omega
 ·refine ⟨g,h0,hA,?_,frozen_of_row w g j cur e hh⟩
  rw [cell_of_row w g j cur e (0,0) hh]
  rw [← ht,List.getElem?_take] at hu
  split at hu
  ·simpa using hu
  ·cases hu
theorem take (h:Own w e own A n cap xs) {k:Nat} (hk:k≤n):Own w e own A k cap (xs.take k):=by
 refine ⟨by rw [List.length_take,h.1]; omega,by have:=h.2.1; omega,?_⟩
 rcases h.2.2 with h0 | ⟨g,cur,h0,hA,hh,hcs,hm,ht⟩
 ·exact .inl h0
 ·refine .inr ⟨g,cur,h0,hA,hh,hcs,hm,?_⟩
  rw [← ht,List.take_take]
  congr 1
  omega
theorem set (h:Own w e own A n cap xs) {g:Nat} (hg:own=some g) (j:Nat) (u:Value):Own (w.setCell ⟨g,j,none⟩ u) e own A n cap (xs.set j u):=by
 refine ⟨by rw [List.length_set]; exact h.1,h.2.1,?_⟩
 rcases h.2.2 with ⟨h0,_⟩ | ⟨g',cur,h0,hA,hh,hcs,hm,ht⟩
 ·rw [h0] at hg; cases hg
 ·rw [h0] at hg; injection hg with hg; subst hg
  refine .inr ⟨g',cur.setIfInBounds j u,h0,hA,heap_setCell_same w g' j cur e u hh,by simpa using hcs,hm,?_⟩
  rw [Array.toList_setIfInBounds,← ht,List.take_set]
end Own
def Src (P:Program) (w:World) (x:Value) (news:List Value):Prop :=
 (Builtin.lenOf x).run P w = .ok news.length w∧(Builtin.firstCells 1 news.length x).run P w = .ok news.toArray w∧(Builtin.firstCells 1 news.length x).run P w.drew = .ok news.toArray w.drew
theorem Src.slice {P:Program} {w:World} {S:Nat→Prop} {A:Option Addr} {n c:Nat} {xs:List Value} (h:Cs w S A n xs):Src P w (.slice A n c) xs:=by
 have h1:=h.ML (P:=P) c
 have h2:=h.drew.ML (P:=P) c
 have e:=h.1
 subst e
 exact ⟨by simp [Builtin.lenOf],h1,h2⟩
theorem Src.string {P:Program} {w:World} (s:ByteArray):Src P w (.string s) (Lib.strCells s):=by
 have e:=Lib.strCells_length s
 exact ⟨by simp [Builtin.lenOf,e],by rw [e]; exact Lib.run_firstCells_string w 1 s,by rw [e]; exact Lib.run_firstCells_string w.drew 1 s⟩
def str (l:List UInt8):ByteArray:=⟨l.toArray⟩
theorem KQ (l:List UInt8):(str l).toList=l:=ByteArray.toList_mk l
theorem Eg (l:List UInt8):(str l).size=l.length:=by simp [str,ByteArray.size]
section ops
variable {P:Program} {ops:Array Oper} {rest:List Oper} {o:Oper} {a:Act} {w:World} {Q:Exit→Act→World→Prop} {K:Act→World→Prop} {E:Prop}
theorem Hv {v:Value} {w':World} (hrun:(execOp a.eval o).run P w = .ok (.value v) w') (hk:K (a.put o.dst v) w'):o.wp P a w K Q:=by
 unfold Oper.wp
 rw [hrun]
 exact hk
theorem N4 {v:Value} {w':World} (hgd:o.guard=none) (hrun:(execOp a.eval o).run P w = .ok (.value v) w') (hk:wpList P ops Q rest (a.put o.dst v) w'):wpList P ops Q (o::rest) a w :=
 wpList_plain hgd fun _ hK=>Hv hrun (hK _ _ hk)
theorem F2 {v:Value} {w':World} (hgd:o.guard=none) (hrun:(execOp a.eval o).run P w = .ok (.value v) w') (hk:K (a.put o.dst v) w') :
  if Region.wanted o (yielded ops a.tmps)=true then Oper.wp P o a w K Q else E:=by
 rw [if_pos (by simp [Region.wanted,hgd])]
 exact Hv hrun hk
theorem T8 {ρ : Operand→Value} {s x:Operand} {t u:TypeId} (ho:o.op = .call { callee := .builtin .append,args := #[s,x],argTypes := #[t,u] }) {v:Value} {w':World}
  (h:(Builtin.append_ #[t,u] o.type #[ρ s,ρ x]).run P w = .ok v w'):(execOp ρ o).run P w = .ok (.value v) w':=by
 unfold execOp
 simp only [ho,resolve,invoke,builtin,Sem.run_bind,Sem.run_pure,Result.andThen_ok,List.map_toArray,List.map_cons,List.map_nil,h]
end ops
end Go.Proofs.YtheflbaejhlboaaGreatDoor
namespace Go.Proofs.YtheflbaejhlboaaGreatDoor
theorem Zg {P:Program} {ops:Array Oper} {Q:Exit→Act→World→Prop} {md:Region.Mode} {S:World→Prop} {i:Nat} (d:Option Tmp) {oi:Oper} {v:Value} {fuel:Nat} {listed:Array Bool} {a:Act} {w:World} (hi:ops[i]? = some oi) (hd:oi.dst=d)
  (hs:Region.noSelect ops=true) (hf:Region.free md ops listed i=true) (hr:(Region.ready md ops listed).contains i=true)
  (hQ:∀ c a w,Q (.panic c) (a.put d v) w→Q (.panic c) a w) (hy:YieldsIf P ops S oi v a) (hS:S w)
  (h:wpAnyH P md ops Q S fuel (listed.setIfInBounds i true) (a.put d v) w):wpAnyH P md ops Q S (fuel+1) listed a w:=by
 subst hd
 exact wpAnyH_take hi hs hf hr hQ hy hS h
end Go.Proofs.YtheflbaejhlboaaGreatDoor
namespace Go.Proofs.YtheflbaejhlboaaGreatDoor
open Go.RowKit
structure Vl where
 k:Int
 n:Int
 s:List UInt8
 deriving DecidableEq
def Vl.cells (v:Vl):List Value:=[.int .i64 v.k,.int .i64 v.n,.string (str v.s)]
def Vl.val (v:Vl):Value := .agg #[.int .i64 v.k,.int .i64 v.n,.string (str v.s)]
def Vl.right (v:Vl):Bool:=if v.k=1 then v.s.isEmpty else if v.k=2 then decide (v.n=0) && decide (v.s.length≤40) else false
theorem Xv (v:Vl) (w:World) (hl:v.s.length≤9223372036854775807):Calls Tryz.prog 271 #[v.val] w fun e w'=>e = .returned (.bool v.right)∧Chg (fun _=>False) w w':=by
 obtain ⟨k,n,s⟩:=v
 have h1:=Eg s
 have h2:=KQ s
 unfold Vl.val Vl.right
 simp only at hl ⊢
 by_cases k1:k=1
 ·subst k1
  go_enter Tryz.func271,Tryz.ntmps271
  go_wp2_with fail
  go_ret
  exact ⟨rfl,(Chg.refl _ w).alloc _⟩
 ·rw [if_neg k1]
  by_cases k2:k=2
  ·subst k2
   by_cases hn:n=0
   ·subst hn
    by_cases hs:s.length≤40
    all_goals
     go_enter Tryz.func271,Tryz.ntmps271
     go_wp2_with fail
     go_ret
     exact ⟨by simp; omega,(Chg.refl _ w).alloc _⟩
   ·go_enter Tryz.func271,Tryz.ntmps271
    go_wp2_with fail
    go_ret
    exact ⟨by simp [hn],(Chg.refl _ w).alloc _⟩
  ·rw [if_neg k2]
   go_enter Tryz.func271,Tryz.ntmps271
   go_wp2_with fail
   go_ret
   exact ⟨rfl,(Chg.refl _ w).alloc _⟩
def Vl.less (a b:Vl):Bool:=if a.right && b.right then (if a.k=b.k then (if a.k=1 then decide (a.n<b.n) else Op.bytesLess a.s b.s) else decide (a.k=1)) else false
theorem QQ {w:World} {B:Nat} {x y z:Value} {t:TypeId} {fr:Nat×Nat} (h:w.heap[B]? = some (.cells #[x,y,z] t fr)) :
  w.cell? ⟨B,0,none⟩=some x∧w.cell? ⟨B,1,none⟩=some y∧w.cell? ⟨B,2,none⟩=some z :=
 ⟨by rw [cell_of_row w B 0 _ t fr h]; rfl,by rw [cell_of_row w B 1 _ t fr h]; rfl,by rw [cell_of_row w B 2 _ t fr h]; rfl⟩
theorem Qd {w w1:World} {o p:Obj} (hc:Chg (fun _=>False) ((w.alloc o).alloc p) w1):w1.heap[w.heap.size]? = some o∧w1.heap[w.heap.size+1]? = some p:=by
 have h1:((w.alloc o).alloc p).heap[w.heap.size]? = some o:=by
  show ((w.heap.push o).push p)[w.heap.size]? = _
  rw [Array.getElem?_push,if_neg (by simp),Array.getElem?_push_size]
 have h2:((w.alloc o).alloc p).heap[w.heap.size+1]? = some p:=by
  show ((w.heap.push o).push p)[w.heap.size+1]? = _
  rw [show w.heap.size+1=(w.heap.push o).size by simp,Array.getElem?_push_size]
 exact ⟨hc.heap h1 fun h=>h,hc.heap h2 fun h=>h⟩
theorem T9 (a b:Vl) (w:World) (ha:a.s.length≤9223372036854775807) (hb:b.s.length≤9223372036854775807):Calls Tryz.prog 398 #[a.val,b.val] w fun e w'=>e = .returned (.bool (a.less b))∧Chg (fun _=>False) w w':=by
 have h1:=fun w=>Xv a w ha
 have h2:=fun w=>Xv b w hb
 have e1:=KQ a.s
 have e2:=KQ b.s
 unfold Vl.less
 obtain ⟨ra,hra⟩:∃ r,a.right=r:=⟨_,rfl⟩
 obtain ⟨rb,hrb⟩:∃ r,b.right=r:=⟨_,rfl⟩
 rw [hra] at h1 ⊢
 rw [hrb] at h2 ⊢
 clear hra hrb
 unfold Vl.val at h1 h2 ⊢
 obtain ⟨ka,na,sa⟩:=a
 obtain ⟨kb,nb,sb⟩:=b
 simp only at ha hb h1 h2 e1 e2 ⊢
 cases ra
 ·go_enter Tryz.func398,Tryz.ntmps398
  go_wp2_with fail
  refine (h1 _).mono ?_
  rintro _ w1 ⟨rfl,hc⟩
  go_wp2_with fail
  go_ret
  exact ⟨rfl,(((Chg.refl _ w).alloc _).alloc _).trans hc fun _ _ h=>h⟩
 ·cases rb
  ·go_enter Tryz.func398,Tryz.ntmps398
   go_wp2_with fail
   refine (h1 _).mono ?_
   rintro _ w1 ⟨rfl,hc⟩
   obtain ⟨q0,q1,q2⟩:=QQ (Qd hc).2
   go_wp2_with fail
   refine (h2 _).mono ?_
   rintro _ w2 ⟨rfl,hc2⟩
   go_wp2_with fail
   go_ret
   exact ⟨rfl,((((Chg.refl _ w).alloc _).alloc _).trans hc fun _ _ h=>h).trans hc2 fun _ _ h=>h⟩
  ·rw [if_pos (show (true && true)=true from rfl)]
   by_cases hk:ka=kb
   ·subst hk
    by_cases hk1:ka=1
    ·rw [if_pos rfl,if_pos hk1]
     subst hk1
     go_enter Tryz.func398,Tryz.ntmps398
     go_wp2_with fail
     refine (h1 _).mono ?_
     rintro _ w1 ⟨rfl,hc⟩
     obtain ⟨q0,q1,q2⟩:=QQ (Qd hc).2
     go_wp2_with fail
     refine (h2 _).mono ?_
     rintro _ w2 ⟨rfl,hc2⟩
     have hcc:=hc.trans hc2 fun _ _ h=>h
     obtain ⟨q0,q1,q2⟩:=QQ (Qd hcc).2
     obtain ⟨p0,p1,p2⟩:=QQ (Qd hcc).1
     by_cases hn:na<nb
     all_goals
      go_wp2_with fail
      go_ret
      exact ⟨by simp [hn],(((Chg.refl _ w).alloc _).alloc _).trans hcc fun _ _ h=>h⟩
    ·rw [if_pos rfl,if_neg hk1]
     go_enter Tryz.func398,Tryz.ntmps398
     go_wp2_with fail
     refine (h1 _).mono ?_
     rintro _ w1 ⟨rfl,hc⟩
     obtain ⟨q0,q1,q2⟩:=QQ (Qd hc).2
     go_wp2_with fail
     refine (h2 _).mono ?_
     rintro _ w2 ⟨rfl,hc2⟩
     have hcc:=hc.trans hc2 fun _ _ h=>h
     obtain ⟨q0,q1,q2⟩:=QQ (Qd hcc).2
     obtain ⟨p0,p1,p2⟩:=QQ (Qd hcc).1
     go_wp2_with fail
     go_ret
     exact ⟨rfl,(((Chg.refl _ w).alloc _).alloc _).trans hcc fun _ _ h=>h⟩
   ·rw [if_neg hk]
    go_enter Tryz.func398,Tryz.ntmps398
    go_wp2_with fail
    refine (h1 _).mono ?_
    rintro _ w1 ⟨rfl,hc⟩
    obtain ⟨q0,q1,q2⟩:=QQ (Qd hc).2
    go_wp2_with fail
    refine (h2 _).mono ?_
    rintro _ w2 ⟨rfl,hc2⟩
    have hcc:=hc.trans hc2 fun _ _ h=>h
    obtain ⟨q0,q1,q2⟩:=QQ (Qd hcc).2
    obtain ⟨p0,p1,p2⟩:=QQ (Qd hcc).1
    by_cases ha1:ka=1
    all_goals
     go_wp2_with fail
     go_ret
     exact ⟨by simp [ha1],(((Chg.refl _ w).alloc _).alloc _).trans hcc fun _ _ h=>h⟩
end Go.Proofs.YtheflbaejhlboaaGreatDoor
namespace Go.Proofs.YtheflbaejhlboaaGreatDoor
open Go.RowKit
def VAt (w:World) (b o:Nat) (v:Vl):Prop :=
 w.cell? ⟨b,o,none⟩=some (.int .i64 v.k)∧w.cell? ⟨b,o+1,none⟩=some (.int .i64 v.n)∧w.cell? ⟨b,o+2,none⟩=some (.string (str v.s))∧v.s.length≤9223372036854775807
def Zq (F:Nat→Prop) (w:World) (v:Value) (r:List Vl):Prop :=
 ∃ A cap,v = .slice A r.length cap∧r.length≤cap∧cap≤9223372036854775807 ∧
  (0<r.length→∃ b off,A=some ⟨b,off,none⟩∧F b∧b<w.heap.size∧∀ j x,r[j]? = some x→VAt w b (off+j*3) x)
theorem VAt.chg {T:Nat→Prop} {w w':World} {b o:Nat} {v:Vl} (h:VAt w b o v) (hc:Chg T w w') (hn:¬ T b):VAt w' b o v :=
 ⟨hc.cell h.1 hn,hc.cell h.2.1 hn,hc.cell h.2.2.1 hn,h.2.2.2⟩
theorem Zq.chg {F T:Nat→Prop} {w w':World} {v:Value} {r:List Vl} (h:Zq F w v r) (hc:Chg T w w') (hn:∀ b,F b→b<w.heap.size→¬ T b):Zq F w' v r:=by
 obtain ⟨A,cap,e,h1,h2,h3⟩:=h
 refine ⟨A,cap,e,h1,h2,fun h0 => ?_⟩
 obtain ⟨b,off,e2,hF,hb,h4⟩:=h3 h0
 exact ⟨b,off,e2,hF,Nat.lt_of_lt_of_le hb hc.size,fun j x hx=>(h4 j x hx).chg hc (hn b hF hb)⟩
theorem Zq.Zi {F:Nat→Prop} {w w':World} {v:Value} {r:List Vl} (h:Zq F w v r) (hc:Chg (fun _=>False) w w'):Zq F w' v r:=h.chg hc fun _ _ _ h=>h
theorem Zq.mono {F G:Nat→Prop} {w:World} {v:Value} {r:List Vl} (h:Zq F w v r) (hn:∀ b,F b→b<w.heap.size→G b):Zq G w v r:=by
 obtain ⟨A,cap,e,h1,h2,h3⟩:=h
 refine ⟨A,cap,e,h1,h2,fun h0 => ?_⟩
 obtain ⟨b,off,e2,hF,hb,h4⟩:=h3 h0
 exact ⟨b,off,e2,hn b hF hb,hb,h4⟩
theorem Zq.Ws (F:Nat→Prop) (w:World):Zq F w (.slice none 0 0) []:=⟨none,0,rfl,Nat.le_refl _,by decide,fun h=>absurd h (by simp)⟩
theorem Ss (v:Vl) (w:World) (hl:v.s.length≤9223372036854775807):Calls Tryz.prog 394 #[v.val] w fun e w'=>e = .returned (.bool (!v.right))∧Chg (fun _=>False) w w':=by
 have h1:=fun w=>Xv v w hl
 obtain ⟨rb,hrb⟩:∃ r,v.right=r:=⟨_,rfl⟩
 rw [hrb] at h1 ⊢
 unfold Vl.val at h1 ⊢
 go_enter Tryz.func394,Tryz.ntmps394
 go_wp2_with fail
 refine (h1 _).mono ?_
 rintro _ w1 ⟨rfl,hc⟩
 go_wp2_with fail
 go_ret
 exact ⟨rfl,((Chg.refl _ w).alloc _).trans hc fun _ _ h=>h⟩
theorem Eh {α : Type} (p : α → Bool) (l:List α) (i:Nat) (h:∀ j,j<i→∀ x,l[j]? = some x→p x=false):l.any p=(l.drop i).any p:=by
 induction i generalizing l with
 | zero=>simp
 | succ i ih =>
  cases l with
  | nil=>simp
  | cons a l =>
   rw [List.any_cons,List.drop_succ_cons,h 0 (by omega) a rfl,Bool.false_or]
   exact ih l fun j hj x hx=>h (j+1) (by omega) x (by simpa using hx)
theorem N8 {F:Nat→Prop} {w:World} {v:Value} {r:List Vl} (h:Zq F w v r) :
  Calls Tryz.prog 480 #[v,.func (.func 394) #[] #[]] w fun e w'=>(∃ n:Int,e = .returned (.int .i64 n)∧(decide (0≤n)=r.any (fun x => !x.right)) ∧ -1≤n∧n≤9223372036854775807)∧Chg (fun _=>False) w w':=by
 obtain ⟨A,cap,rfl,hn,hcap,hat⟩:=h
 have HA:=Lib.hid hat
 clear hat
 go_enter Tryz.func480,Tryz.ntmps480
 go_wp2_with fail
 go_loopw [8] (fun i wr=>∃ I:Nat,I≤r.length∧i = .int .i64 I∧Hid (∀ j,j<I→∀ x,r[j]? = some x→(fun x:Vl => !x.right) x=false)∧Chg (fun _=>False) w wr) (fun i _=>r.length-(intOf i).toNat)
 case atStart=>exact ⟨0,Nat.zero_le _,rfl,Lib.hid (fun j h=>absurd h (by omega)),Chg.refl _ _⟩
 case round =>
  obtain ⟨I,hI,rfl,HB,hcw⟩:=hrel
  by_cases hlt:I<r.length
  ·obtain ⟨b,off,rfl,_,hb,hx⟩:=HA.out (by omega)
   obtain ⟨x,hxI⟩:∃ x,r[I]? = some x:=⟨_,List.getElem?_eq_getElem hlt⟩
   have hx:=(hx I x hxI).chg hcw (fun h=>h)
   obtain ⟨q0,q1,q2,ql⟩:=hx
   have hc1:=fun w=>Ss x w ql
   unfold Vl.val at hc1
   have HX:=Lib.hid hxI
   clear hxI
   obtain ⟨rb,hrb⟩:∃ r,x.right=r:=⟨_,rfl⟩
   rw [hrb] at hc1
   cases rb
   ·go_wp2_with fail
    refine (hc1 _).mono ?_
    rintro _ w1 ⟨rfl,hc⟩
    go_wp2_with fail
    go_ret
    refine ⟨⟨I,rfl,?_,by omega,by omega⟩,hcw.trans hc fun _ _ h=>h⟩
    rw [Eh _ r I HB.out,show r.drop I=x::r.drop (I+1) from ?_,List.any_cons,hrb]
    ·simp
    ·obtain ⟨h1,h2⟩:=List.getElem?_eq_some_iff.1 HX.out
     rw [← h2]
     exact List.drop_eq_getElem_cons h1
   ·go_wp2_with fail
    refine (hc1 _).mono ?_
    rintro _ w1 ⟨rfl,hc⟩
    go_wp2_with fail
    go_roundw
    case rel =>
     refine ⟨I+1,by omega,by go_num,Lib.hid fun j hj y hy => ?_,hcw.trans hc fun _ _ h=>h⟩
     by_cases e:j=I
     ·subst e
      rw [HX.out] at hy
      cases hy
      simp [hrb]
     ·exact HB.out j (by omega) y hy
    case measure=>simp [intOf]; omega
  ·have hge:¬ ((I:Int)<(r.length:Int)):=by omega
   go_wp2_with fail
   go_ret
   refine ⟨⟨-1,rfl,?_,by omega,by omega⟩,hcw⟩
   have hI':I=r.length:=by omega
   rw [Eh _ r I HB.out,hI',List.drop_length]
   rfl
theorem RP {F:Nat→Prop} {w:World} {v:Value} {r:List Vl} (h:Zq F w v r) :
  Calls Tryz.prog 393 #[v,.func (.func 394) #[] #[]] w fun e w'=>e = .returned (.bool (r.any (fun x => !x.right)))∧Chg (fun _=>False) w w':=by
 have h1:=N8 h
 go_enter Tryz.func393,Tryz.ntmps393
 go_wp2_with fail
 refine h1.mono ?_
 rintro _ w1 ⟨⟨n,rfl,hn,_,_⟩,hc⟩
 by_cases h0:0≤n
 all_goals
  go_wp2_with fail
  go_ret
  exact ⟨by rw [← hn]; simp [h0],hc⟩
def Zl (r:List Vl):Bool:=decide (0<r.length) && decide (r.length≤6) && !r.any (fun x => !x.right)
theorem Q4 {F:Nat→Prop} {w:World} {v:Value} {r:List Vl} (h:Zq F w v r) :
  Calls Tryz.prog 282 #[v] w fun e w'=>e = .returned (.bool (Zl r))∧Chg (fun _=>False) w w':=by
 have h1:=RP h
 obtain ⟨A,cap,rfl,hn,hcap,hat⟩:=h
 unfold Zl
 obtain ⟨b,hb⟩:∃ b,r.any (fun x => !x.right)=b:=⟨_,rfl⟩
 rw [hb] at h1 ⊢
 clear hb hat
 by_cases h0:0<r.length
 ·by_cases h6:r.length≤6
  ·go_enter Tryz.func282,Tryz.ntmps282
   go_wp2_with fail
   refine h1.mono ?_
   rintro _ w1 ⟨rfl,hc⟩
   go_wp2_with fail
   go_ret
   exact ⟨by simp [h0,h6],hc⟩
  ·go_enter Tryz.func282,Tryz.ntmps282
   go_wp2_with fail
   go_ret
   exact ⟨by simp [h0,h6],Chg.refl _ _⟩
 ·go_enter Tryz.func282,Tryz.ntmps282
  go_wp2_with fail
  go_ret
  exact ⟨by simp [h0],Chg.refl _ _⟩
def Wu (x y:Vl):Int:=if x.less y then -1 else if y.less x then 1 else 0
def Qp:List Vl→List Vl→Int
 | [],[]=>0
 | [],_::_ => -1
 | _::_,[]=>1
 | a::x,b::y=>if Wu a b=0 then Qp x y else Wu a b
theorem F3 (x y:Vl) (w:World) (hx:x.s.length≤9223372036854775807) (hy:y.s.length≤9223372036854775807):Calls Tryz.prog 397 #[x.val,y.val] w fun e w'=>e = .returned (.int .i64 (Wu x y))∧Chg (fun _=>False) w w':=by
 have h1:=fun w=>T9 x y w hx hy
 have h2:=fun w=>T9 y x w hy hx
 unfold Wu
 obtain ⟨ra,hra⟩:∃ r,x.less y=r:=⟨_,rfl⟩
 obtain ⟨rb,hrb⟩:∃ r,y.less x=r:=⟨_,rfl⟩
 rw [hra] at h1 ⊢
 rw [hrb] at h2 ⊢
 clear hra hrb
 unfold Vl.val at h1 h2 ⊢
 obtain ⟨kx,nx,sx⟩:=x
 obtain ⟨ky,ny,sy⟩:=y
 simp only at hx hy h1 h2 ⊢
 cases ra
 ·cases rb
  all_goals
   go_enter Tryz.func397,Tryz.ntmps397
   go_wp2_with fail
   refine (h1 _).mono ?_
   rintro _ w1 ⟨rfl,hc⟩
   obtain ⟨q0,q1,q2⟩:=QQ (Qd hc).2
   obtain ⟨p0,p1,p2⟩:=QQ (Qd hc).1
   go_wp2_with fail
   refine (h2 _).mono ?_
   rintro _ w2 ⟨rfl,hc2⟩
   go_wp2_with fail
   go_ret
   exact ⟨rfl,((((Chg.refl _ w).alloc _).alloc _).trans hc fun _ _ h=>h).trans hc2 fun _ _ h=>h⟩
 ·go_enter Tryz.func397,Tryz.ntmps397
  go_wp2_with fail
  refine (h1 _).mono ?_
  rintro _ w1 ⟨rfl,hc⟩
  go_wp2_with fail
  go_ret
  exact ⟨rfl,(((Chg.refl _ w).alloc _).alloc _).trans hc fun _ _ h=>h⟩
theorem Hw {F G:Nat→Prop} {w:World} {v u:Value} {r q:List Vl} (h:Zq F w v r) (hu:Zq G w u q) :
  Calls Tryz.prog 396 #[v,u,.func (.func 397) #[] #[]] w fun e w'=>e = .returned (.int .i64 (Qp r q))∧Chg (fun _=>False) w w':=by
 obtain ⟨A,cap,rfl,hn,hcap,hat⟩:=h
 obtain ⟨B,cap2,rfl,hn2,hcap2,hat2⟩:=hu
 have HA:=Lib.hid hat
 have HB:=Lib.hid hat2
 clear hat hat2
 go_enter Tryz.func396,Tryz.ntmps396
 go_wp2_with fail
 go_loopw [13] (fun i wr=>∃ I:Nat,I≤r.length∧I≤q.length∧i = .int .i64 I∧Hid (Qp r q=Qp (r.drop I) (q.drop I))∧Chg (fun _=>False) w wr) (fun i _=>r.length-(intOf i).toNat)
 case atStart=>exact ⟨0,Nat.zero_le _,Nat.zero_le _,rfl,Lib.hid (by simp),Chg.refl _ _⟩
 case round =>
  obtain ⟨I,hI,hI2,rfl,HC,hcw⟩:=hrel
  by_cases hlt:I<r.length
  ·obtain ⟨b,off,rfl,_,hb,hx⟩:=HA.out (by omega)
   obtain ⟨x,hxI⟩:∃ x,r[I]? = some x:=⟨_,List.getElem?_eq_getElem hlt⟩
   have hx:=(hx I x hxI).chg hcw (fun h=>h)
   obtain ⟨q0,q1,q2,ql⟩:=hx
   have HX:=Lib.hid hxI
   clear hxI
   by_cases hlt2:I<q.length
   ·obtain ⟨b2,off2,rfl,_,hb2,hy⟩:=HB.out (by omega)
    obtain ⟨y,hyI⟩:∃ y,q[I]? = some y:=⟨_,List.getElem?_eq_getElem hlt2⟩
    have hy:=(hy I y hyI).chg hcw (fun h=>h)
    obtain ⟨p0,p1,p2,pl⟩:=hy
    have HY:=Lib.hid hyI
    clear hyI
    have hc1:=fun w=>F3 x y w ql pl
    unfold Vl.val at hc1
    have hbw:=Nat.lt_of_lt_of_le hb hcw.size
    have hbw2:=Nat.lt_of_lt_of_le hb2 hcw.size
    have hne:¬ wr.heap.size=b2:=by omega
    have hne':¬ b2=wr.heap.size:=by omega
    have hd1:r.drop I=x::r.drop (I+1):=by
     obtain ⟨h1,h2⟩:=List.getElem?_eq_some_iff.1 HX.out
     rw [← h2]
     exact List.drop_eq_getElem_cons h1
    have hd2:q.drop I=y::q.drop (I+1):=by
     obtain ⟨h1,h2⟩:=List.getElem?_eq_some_iff.1 HY.out
     rw [← h2]
     exact List.drop_eq_getElem_cons h1
    have HD:=Lib.hid (HC.out.trans (by rw [hd1,hd2,Qp]))
    clear hd1 hd2 HX HY
    obtain ⟨c,hcv⟩:∃ c,Wu x y=c:=⟨_,rfl⟩
    rw [hcv] at hc1 HD
    by_cases h0:c=0
    ·subst h0
     go_wp2_with fail
     refine (hc1 _).mono ?_
     rintro _ w1 ⟨rfl,hc⟩
     go_wp2_with fail
     go_roundw
     case rel=>exact ⟨I+1,by omega,by omega,by go_num,Lib.hid (by simpa using HD.out),hcw.trans ((((Chg.refl _ wr).alloc _).alloc _).trans hc fun _ _ h=>h) fun _ _ h=>h⟩
     case measure=>simp [intOf]; omega
    ·go_wp2_with fail
     refine (hc1 _).mono ?_
     rintro _ w1 ⟨rfl,hc⟩
     go_wp2_with fail
     go_ret
     exact ⟨by rw [HD.out,if_neg h0]; rfl,hcw.trans ((((Chg.refl _ wr).alloc _).alloc _).trans hc fun _ _ h=>h) fun _ _ h=>h⟩
   ·have hge:q.length≤I:=by omega
    go_wp2_with fail
    go_ret
    refine ⟨?_,hcw.trans ((Chg.refl _ wr).alloc _) fun _ _ h=>h⟩
    rw [HC.out,show q.drop I=[] from List.drop_of_length_le hge]
    obtain ⟨h1,h2⟩:=List.getElem?_eq_some_iff.1 HX.out
    rw [List.drop_eq_getElem_cons h1]
    rfl
  ·have hge:¬ ((I:Int)<(r.length:Int)):=by omega
   have hI':I=r.length:=by omega
   subst hI'
   by_cases hl:r.length<q.length
   ·go_wp2_with fail
    go_ret
    refine ⟨?_,hcw⟩
    rw [HC.out,List.drop_length,List.drop_eq_getElem_cons hl]
    rfl
   ·go_wp2_with fail
    go_ret
    refine ⟨?_,hcw⟩
    rw [HC.out,List.drop_length,List.drop_of_length_le (by omega)]
    rfl
theorem V9 {F G:Nat→Prop} {w:World} {v u:Value} {r q:List Vl} (h:Zq F w v r) (hu:Zq G w u q) :
  Calls Tryz.prog 286 #[v,u] w fun e w'=>e = .returned (.int .i64 (Qp r q))∧Chg (fun _=>False) w w':=by
 have h1:=Hw h hu
 go_enter Tryz.func286,Tryz.ntmps286
 go_wp2_with fail
 refine h1.mono ?_
 rintro _ w1 ⟨rfl,hc⟩
 go_wp2_with fail
 go_ret
 exact ⟨rfl,hc⟩
def R9 (r q:List Vl):Bool:=Zl r && (Zl q && decide (Qp r q<0))
def XX (r q:List Vl):Bool:=Zl r && (Zl q && decide (Qp r q=0))
theorem Hx {F G:Nat→Prop} {w:World} {v u:Value} {r q:List Vl} (h:Zq F w v r) (hu:Zq G w u q) :
  Calls Tryz.prog 290 #[v,u] w fun e w'=>e = .returned (.bool (R9 r q))∧Chg (fun _=>False) w w':=by
 have h1:=Q4 h
 have h2:=fun w1 (hc:Chg (fun _=>False) w w1)=>Q4 (hu.Zi hc)
 have h3:=fun w1 (hc:Chg (fun _=>False) w w1)=>V9 (h.Zi hc) (hu.Zi hc)
 unfold R9
 obtain ⟨b1,e1⟩:∃ b,Zl r=b:=⟨_,rfl⟩
 obtain ⟨b2,e2⟩:∃ b,Zl q=b:=⟨_,rfl⟩
 obtain ⟨c,e3⟩:∃ b,Qp r q=b:=⟨_,rfl⟩
 rw [e1] at h1 ⊢
 rw [e2] at h2 ⊢
 rw [e3] at h3 ⊢
 clear e1 e2 e3 h hu
 cases b1
 ·go_enter Tryz.func290,Tryz.ntmps290
  go_wp2_with fail
  refine h1.mono ?_
  rintro _ w1 ⟨rfl,hc⟩
  go_wp2_with fail
  go_ret
  exact ⟨rfl,hc⟩
 ·cases b2
  ·go_enter Tryz.func290,Tryz.ntmps290
   go_wp2_with fail
   refine h1.mono ?_
   rintro _ w1 ⟨rfl,hc⟩
   go_wp2_with fail
   refine (h2 _ hc).mono ?_
   rintro _ w2 ⟨rfl,hc2⟩
   go_wp2_with fail
   go_ret
   exact ⟨rfl,hc.trans hc2 fun _ _ h=>h⟩
  ·by_cases h0:c<0
   all_goals
    go_enter Tryz.func290,Tryz.ntmps290
    go_wp2_with fail
    refine h1.mono ?_
    rintro _ w1 ⟨rfl,hc⟩
    go_wp2_with fail
    refine (h2 _ hc).mono ?_
    rintro _ w2 ⟨rfl,hc2⟩
    go_wp2_with fail
    refine (h3 _ (hc.trans hc2 fun _ _ h=>h)).mono ?_
    rintro _ w3 ⟨rfl,hc3⟩
    go_wp2_with fail
    go_ret
    exact ⟨by simp [h0],(hc.trans hc2 fun _ _ h=>h).trans hc3 fun _ _ h=>h⟩
theorem Ra {F G:Nat→Prop} {w:World} {v u:Value} {r q:List Vl} (h:Zq F w v r) (hu:Zq G w u q) :
  Calls Tryz.prog 272 #[v,u] w fun e w'=>e = .returned (.bool (XX r q))∧Chg (fun _=>False) w w':=by
 have h1:=Q4 h
 have h2:=fun w1 (hc:Chg (fun _=>False) w w1)=>Q4 (hu.Zi hc)
 have h3:=fun w1 (hc:Chg (fun _=>False) w w1)=>V9 (h.Zi hc) (hu.Zi hc)
 unfold XX
 obtain ⟨b1,e1⟩:∃ b,Zl r=b:=⟨_,rfl⟩
 obtain ⟨b2,e2⟩:∃ b,Zl q=b:=⟨_,rfl⟩
 obtain ⟨c,e3⟩:∃ b,Qp r q=b:=⟨_,rfl⟩
 rw [e1] at h1 ⊢
 rw [e2] at h2 ⊢
 rw [e3] at h3 ⊢
 clear e1 e2 e3 h hu
 cases b1
 ·go_enter Tryz.func272,Tryz.ntmps272
  go_wp2_with fail
  refine h1.mono ?_
  rintro _ w1 ⟨rfl,hc⟩
  go_wp2_with fail
  go_ret
  exact ⟨rfl,hc⟩
 ·cases b2
  ·go_enter Tryz.func272,Tryz.ntmps272
   go_wp2_with fail
   refine h1.mono ?_
   rintro _ w1 ⟨rfl,hc⟩
   go_wp2_with fail
   refine (h2 _ hc).mono ?_
   rintro _ w2 ⟨rfl,hc2⟩
   go_wp2_with fail
   go_ret
   exact ⟨rfl,hc.trans hc2 fun _ _ h=>h⟩
  ·by_cases h0:c=0
   ·subst h0
    go_enter Tryz.func272,Tryz.ntmps272
    go_wp2_with fail
    refine h1.mono ?_
    rintro _ w1 ⟨rfl,hc⟩
    go_wp2_with fail
    refine (h2 _ hc).mono ?_
    rintro _ w2 ⟨rfl,hc2⟩
    go_wp2_with fail
    refine (h3 _ (hc.trans hc2 fun _ _ h=>h)).mono ?_
    rintro _ w3 ⟨rfl,hc3⟩
    go_wp2_with fail
    go_ret
    exact ⟨rfl,(hc.trans hc2 fun _ _ h=>h).trans hc3 fun _ _ h=>h⟩
   ·go_enter Tryz.func272,Tryz.ntmps272
    go_wp2_with fail
    refine h1.mono ?_
    rintro _ w1 ⟨rfl,hc⟩
    go_wp2_with fail
    refine (h2 _ hc).mono ?_
    rintro _ w2 ⟨rfl,hc2⟩
    go_wp2_with fail
    refine (h3 _ (hc.trans hc2 fun _ _ h=>h)).mono ?_
    rintro _ w3 ⟨rfl,hc3⟩
    go_wp2_with fail
    go_ret
    exact ⟨by simp [h0],(hc.trans hc2 fun _ _ h=>h).trans hc3 fun _ _ h=>h⟩
end Go.Proofs.YtheflbaejhlboaaGreatDoor
namespace Go.Proofs.YtheflbaejhlboaaGreatDoor
open Go.RowKit
def CsK (w:World) (S:Nat→Prop) (k:Nat) (A:Option Addr) (n:Nat) (xs:List Value):Prop :=
 xs.length=n*k∧(0<n→∃ b off,A=some ⟨b,off,none⟩∧S b∧b<w.heap.size∧∀ j u,xs[j]? = some u→w.cell? ⟨b,off+j,none⟩=some u)
def QE (w:World) (e:TypeId) (k:Nat) (own:Option Nat) (A:Option Addr) (n cap:Nat) (xs:List Value):Prop :=
 xs.length=n*k∧n≤cap∧((own=none∧cap=0)∨∃ g cur,own=some g∧A=some ⟨g,0,none⟩∧w.heap[g]? = some (.cells cur e (0,0))∧cap*k≤cur.size∧cap≤maxLen∧cur.toList.take (n*k)=xs)
namespace CsK
variable {w w':World} {S S' T:Nat→Prop} {A:Option Addr} {n k:Nat} {xs:List Value}
theorem chg (h:CsK w S k A n xs) (hc:Chg T w w') (hd:∀ b,S b→b<w.heap.size→¬ T b):CsK w' S k A n xs :=
 ⟨h.1,fun hn=>by
  obtain ⟨b,off,e,hs,hb,hcell⟩:=h.2 hn
  exact ⟨b,off,e,hs,Nat.lt_of_lt_of_le hb hc.size,fun j u hu=>hc.cell (hcell j u hu) (hd b hs hb)⟩⟩
theorem mono (h:CsK w S k A n xs) (hs:∀ b,S b→b<w.heap.size→S' b):CsK w S' k A n xs :=
 ⟨h.1,fun hn=>by
  obtain ⟨b,off,e,h1,hb,hcell⟩:=h.2 hn
  exact ⟨b,off,e,hs b h1 hb,hb,hcell⟩⟩
theorem ML {P:Program} (h:CsK w S k A n xs) (c:Nat):(Builtin.firstCells k n (.slice A n c)).run P w = .ok xs.toArray w:=by
 by_cases hn:0<n
 ·obtain ⟨b,off,rfl,_,_,hcell⟩:=h.2 hn
  exact run_firstCells_some (P:=P) w k n _ n c xs h.1 fun j u hu=>by rw [QN]; exact hcell j u hu
 ·have h0:n=0:=by omega
  subst h0
  have hx:xs=[]:=List.eq_nil_of_length_eq_zero (by rw [h.1,Nat.zero_mul])
  subst hx
  cases A <;> simp [Builtin.firstCells,loadCells,loadCellsFrom]
end CsK
namespace QE
variable {w w':World} {T:Nat→Prop} {e:TypeId} {own:Option Nat} {A:Option Addr} {n cap k:Nat} {xs:List Value}
theorem Ws (w:World) (e:TypeId) (k:Nat) (A:Option Addr):QE w e k none A 0 0 []:=⟨by simp,Nat.le_refl _,.inl ⟨rfl,rfl⟩⟩
theorem fits (h:QE w e k own A n cap xs):n≤cap:=h.2.1
theorem Kg (h:QE w e k own A n cap xs):cap≤9223372036854775807:=by
 rcases h.2.2 with ⟨_,h0⟩ | ⟨_,_,_,_,_,_,hm,_⟩
 ·omega
 ·simpa [maxLen] using hm
theorem lt (h:QE w e k own A n cap xs) {g:Nat} (hg:own=some g):g<w.heap.size:=by
 rcases h.2.2 with ⟨h0,_⟩ | ⟨g',cur,h0,_,hh,_⟩
 ·rw [h0] at hg; cases hg
 ·rw [h0] at hg; injection hg with hg; subst hg; exact lt_of_block hh
theorem chg (h:QE w e k own A n cap xs) (hc:Chg T w w') (hd:∀ b,own=some b→¬ T b):QE w' e k own A n cap xs:=by
 refine ⟨h.1,h.2.1,?_⟩
 rcases h.2.2 with h0 | ⟨g,cur,h0,hA,hh,r⟩
 ·exact .inl h0
 ·exact .inr ⟨g,cur,h0,hA,hc.heap hh (hd g h0),r⟩
theorem cs (h:QE w e k own A n cap xs):CsK w (fun b=>own=some b) k A n xs:=by
 refine ⟨h.1,fun hn => ?_⟩
 rcases h.2.2 with ⟨_,h0⟩ | ⟨g,cur,h0,hA,hh,hcs,_,ht⟩
 ·have:=h.2.1; omega
 ·refine ⟨g,0,hA,h0,lt_of_block hh,fun j u hu => ?_⟩
  rw [Nat.zero_add,cell_of_row w g j cur e (0,0) hh]
  rw [← ht,List.getElem?_take] at hu
  split at hu
  ·simpa using hu
  ·cases hu
end QE
def Kt (P:Program) (w:World) (k:Nat) (x:Value) (m:Nat) (news:List Value):Prop :=
 news.length=m*k∧(Builtin.lenOf x).run P w = .ok m w∧(Builtin.firstCells k m x).run P w = .ok news.toArray w∧(Builtin.firstCells k m x).run P w.drew = .ok news.toArray w.drew
theorem Kt.slice {P:Program} {w:World} {S:Nat→Prop} {k:Nat} {A:Option Addr} {n c:Nat} {xs:List Value} (h:CsK w S k A n xs):Kt P w k (.slice A n c) n xs:=by
 have h1:=h.ML (P:=P) c
 have h2:=(show CsK w.drew S k A n xs from h).ML (P:=P) c
 exact ⟨h.1,by simp [Builtin.lenOf],h1,h2⟩
theorem Rb {P:Program} {w:World} {t u ty e d:TypeId} {i:TypeInfo} {z:Value} {by_ k:Nat}
  (ht:P.underlying t=some (.slice e)) (hu:P.underlying u=some (.slice d))
  (hi:P.info? e=some i) (hz:i.zero=some z) (hsize:i.size=k) (hby:i.bytes=by_) (hzs:z.cells.size=k) (hk:0<k)
  {own:Option Nat} {A:Option Addr} {n cap m:Nat} {xs news:List Value} {x:Value} (h:QE w e k own A n cap xs) (hx:Kt P w k x m news)
  (h1:∀ u∈news,u.oneCell'=true) (h63:n+m≤9223372036854775807) (hbytes:(n+m)*by_≤140737488355328) :
  ∃ own' A' cap' w',(Builtin.append_ #[t,u] ty #[.slice A n cap,x]).run P w = .ok (.slice A' (n+m) cap') w'∧QE w' e k own' A' (n+m) cap' (xs++news) ∧
   (own'=own∨own'=some w.heap.size)∧Chg (fun b=>own=some b) w w':=by
 subst hby
 subst hsize
 have hxl:=h.1
 obtain ⟨hml,l1,l2,l3⟩:=hx
 have hsl:(xs++news).length=(n+m)*i.size:=by rw [List.length_append,hxl,hml,Nat.add_mul]
 by_cases hroom:n+m≤cap
 ·rcases h.2.2 with ⟨h0,hc⟩ | ⟨g,cur,h0,hA,hh,hcs,hm,htk⟩
  ·have hm0:m=0:=by omega
   subst hm0
   have hn0:news=[]:=List.eq_nil_of_length_eq_zero (by omega)
   subst hn0
   refine ⟨own,A,cap,w,?_,by simpa using h,.inl rfl,Chg.refl _ w⟩
   simp only [Nat.add_zero] at l1 l2 hroom ⊢
   cases A <;> simp [Builtin.append_,run_underlying ht,run_underlying hu,sizeOf,typeInfo,hi,l1,l2,hroom,storeCells]
  ·subst hA
   have hmul:(n+m)*i.size≤cur.size:=Nat.le_trans (Nat.mul_le_mul_right _ hroom) hcs
   have hst:=run_storeCells_at P g (n*i.size) e news 0 cur w hh (by rw [Nat.add_zero,hml,← Nat.add_mul]; exact hmul) h1
   simp only [Nat.add_zero] at hst
   refine ⟨own,some ⟨g,0,none⟩,cap,w.setRow g (cur.toList.take (n*i.size)++news++cur.toList.drop (n*i.size+news.length)).toArray,?_,?_,.inl rfl,(Chg.refl _ w).setRow (.inl h0) _⟩
   ·simp [Builtin.append_,run_underlying ht,run_underlying hu,sizeOf,typeInfo,hi,l1,l2,hroom,Addr.add_lit,hst]
   ·refine ⟨hsl,hroom,.inr ⟨g,_,h0,rfl,setRow_heap w g cur _ e _ hh,?_,hm,?_⟩⟩
    ·simp only [List.size_toArray,List.length_append,List.length_take,List.length_drop,Array.length_toList]
     rw [hml,← Nat.add_mul]
     have:n*i.size≤(n+m)*i.size:=Nat.mul_le_mul_right _ (by omega)
     rw [Nat.add_mul] at hmul this ⊢
     omega
    ·show List.take ((n+m)*i.size) (cur.toList.take (n*i.size)++news++cur.toList.drop (n*i.size+news.length))=_
     rw [htk,← hsl]
     exact List.take_left
 ·have hge:=grownCap_ge w (n+m) cap e
  have hcm:grownCap w (n+m) cap e≤maxLen:=grownCap_le_maxLen w (n+m) cap e (by simp only [maxLen]; omega)
  have hn:¬ (n+m≤cap):=hroom
  have h63':¬ (9223372036854775807<((n:Int)+(m:Int))):=by omega
  have hfit:=growslice_fits (need:=n+m) (old:=cap) (bytes:=i.bytes) (by omega) hbytes
  have h48':¬ (281474976710656<Builtin.nextslicecap (n+m) cap*i.bytes):=by omega
  have hold:(Builtin.firstCells i.size n (.slice A n cap)).run P w.drew = .ok xs.toArray w.drew:=(show CsK w.drew _ _ _ _ _ from h.cs).ML cap
  refine ⟨some w.heap.size,some ⟨w.heap.size,0,none⟩,grownCap w (n+m) cap e,
   w.drew.alloc (.cells (xs.toArray++news.toArray++Builtin.zeroCells z.cells (grownCap w (n+m) cap e-(n+m))) e),?_,?_,.inr rfl,((Chg.refl _ w).drew).alloc _⟩
  ·simp [Builtin.append_,run_underlying ht,run_underlying hu,sizeOf,typeInfo,zeroValue,hi,hz,l1,l3,hn,h63',h48',Question.forced,hold,newRow,grownCap]
   congr 2
   apply Array.ext'
   simp [List.append_assoc]
  ·refine ⟨hsl,hge,.inr ⟨w.heap.size,_,rfl,rfl,heap_alloc_new w.drew _,?_,hcm,?_⟩⟩
   ·simp only [Array.size_append,List.size_toArray,size_zeroCells,hzs,hxl,hml]
    rw [← Nat.add_mul,← Nat.add_mul]
    exact Nat.mul_le_mul_right _ (by omega)
   ·simp only [Array.toList_append,List.append_assoc]
    rw [← List.append_assoc,← hsl]
    exact List.take_left
section ops
variable {P:Program} {ops:Array Oper} {rest:List Oper} {o:Oper} {a:Act} {w:World} {Q:Exit→Act→World→Prop} {K:Act→World→Prop} {E:Prop}
structure Ei (P:Program) (t u e:TypeId) (k by_:Nat):Prop where
 ht:P.underlying t=some (.slice e)
 hu:∃ d,P.underlying u=some (.slice d)
 hi:∃ i z,P.info? e=some i∧i.zero=some z∧i.size=k∧i.bytes=by_∧z.cells.size=k
 hk:0<k
theorem ZK (hgd:o.guard=none) (s x:Operand) (t u:TypeId) (ho:o.op = .call { callee := .builtin .append,args := #[s,x],argTypes := #[t,u] })
  (e:TypeId) (k by_:Nat) (T:Ei P t u e k by_) (own:Option Nat) (A:Option Addr) (n cap m:Nat) (xs news:List Value) (xv:Value)
  (hs:a.eval s = .slice A n cap) (hxv:a.eval x=xv) (h:QE w e k own A n cap xs) (hx:Kt P w k xv m news)
  (h1:∀ u∈news,u.oneCell'=true) (N:Nat) (hN:n+m=N) (h63:N≤9223372036854775807) (hbytes:N*by_≤140737488355328)
  (kk:∀ own' A' cap' w',QE w' e k own' A' N cap' (xs++news)→(own'=own∨own'=some w.heap.size)→Chg (fun b=>own=some b) w w'→wpList P ops Q rest (a.put o.dst (.slice A' N cap')) w') :
  wpList P ops Q (o::rest) a w:=by
 subst hN
 obtain ⟨ht,⟨d,hu⟩,⟨i,z,hi,hz,hs',hb,hzs⟩,hk⟩:=T
 obtain ⟨own',A',cap',w',hr,h2,h3,h4⟩:=Rb (ty:=o.type) ht hu hi hz hs' hb hzs hk h hx h1 h63 hbytes
 exact N4 hgd (T8 ho (by rw [hs,hxv]; exact hr)) (kk own' A' cap' w' h2 h3 h4)
theorem Xw (hgd:o.guard=none) (s x:Operand) (t u:TypeId) (ho:o.op = .call { callee := .builtin .append,args := #[s,x],argTypes := #[t,u] })
  (e:TypeId) (k by_:Nat) (T:Ei P t u e k by_) (own:Option Nat) (A:Option Addr) (n cap m:Nat) (xs news:List Value) (xv:Value)
  (hs:a.eval s = .slice A n cap) (hxv:a.eval x=xv) (h:QE w e k own A n cap xs) (hx:Kt P w k xv m news)
  (h1:∀ u∈news,u.oneCell'=true) (N:Nat) (hN:n+m=N) (h63:N≤9223372036854775807) (hbytes:N*by_≤140737488355328)
  (kk:∀ own' A' cap' w',QE w' e k own' A' N cap' (xs++news)→(own'=own∨own'=some w.heap.size)→Chg (fun b=>own=some b) w w'→K (a.put o.dst (.slice A' N cap')) w') :
  if Region.wanted o (yielded ops a.tmps)=true then Oper.wp P o a w K Q else E:=by
 subst hN
 obtain ⟨ht,⟨d,hu⟩,⟨i,z,hi,hz,hs',hb,hzs⟩,hk⟩:=T
 obtain ⟨own',A',cap',w',hr,h2,h3,h4⟩:=Rb (ty:=o.type) ht hu hi hz hs' hb hzs hk h hx h1 h63 hbytes
 exact F2 hgd (T8 ho (by rw [hs,hxv]; exact hr)) (kk own' A' cap' w' h2 h3 h4)
end ops
end Go.Proofs.YtheflbaejhlboaaGreatDoor
namespace Go.Proofs.YtheflbaejhlboaaGreatDoor
open Go
def fl (n:Nat):Nat:=FloatKind.f64.nearest (n:Int)
def BM (n:Nat):Ieee.Datum:=if n=0 then .number false 0 (-1074) else .number false (n*2^(52-n.log2)) ((n.log2:Int)-52)
theorem XY {n:Nat} (h:n≤4503599627370496):n.log2≤52:=by
 rcases Nat.eq_zero_or_pos n with rfl | h0
 ·decide
 ·have h1:=Nat.log2_self_le (n:=n) (by omega)
  rcases Nat.lt_or_ge 52 n.log2 with h2 | h2
  ·exact absurd (Nat.le_trans (Nat.pow_le_pow_right (by decide:0<2) h2) h1) (by
    rw [show (2:Nat)^53=9007199254740992 from rfl]; omega)
  ·exact h2
theorem Ej (n:Nat):Ieee.Toward.even.cut false n 0=n:=by
 simp [Ieee.Toward.cut,Nat.mod_one]
theorem BN {L:Nat} (h:L≤52):2^L*2^(52-L)=4503599627370496:=by
 rw [← Nat.pow_add,show L+(52-L)=52 by omega]
theorem scaled {n:Nat} (h0:0<n) (h:n≤4503599627370496):4503599627370496≤n*2^(52-n.log2)∧n*2^(52-n.log2)<9007199254740992:=by
 have hL:=XY h
 have h1:=Nat.log2_self_le (n:=n) (by omega)
 have h2:=Nat.lt_log2_self (n:=n)
 have h3:=BN hL
 constructor
 ·rw [← h3]; exact Nat.mul_le_mul_right _ h1
 ·have h4:n*2^(52-n.log2)<2^(n.log2+1)*2^(52-n.log2):=Nat.mul_lt_mul_of_pos_right h2 (Nat.pow_pos (by decide))
  rw [Nat.pow_succ,Nat.mul_right_comm,h3] at h4
  exact h4
theorem Xf:fl 0=0:=by decide +kernel
theorem ZeQ {n:Nat} (h0:0<n) (h:n≤4503599627370496):fl n=(n.log2+1022)*4503599627370496+n*2^(52-n.log2):=by
 have hL:=XY h
 have hs:=scaled h0 h
 unfold fl FloatKind.nearest FloatKind.encode Ieee.Format.write
 simp only [Int.natAbs_natCast]
 unfold Ieee.Format.nearest
 rw [if_neg (by omega)]
 have e1:decide ((n:Int)<0)=false:=by simp
 rw [e1]
 simp only [FloatKind.format,Ieee.double,Ieee.Format.leastPlace,Ieee.Format.word,Ieee.Format.infRung,Ieee.Format.binade]
 have e2:max ((0:Int)+(n.log2:Int)-((52:Nat):Int)) (2-2^(11-1)-((52:Nat):Int))=(n.log2:Int)-52:=by
  rw [show (2-2^(11-1)-((52:Nat):Int)) = -1074 from rfl,Int.max_eq_left] <;> omega
 have e3:((n.log2:Int)-52-(2-2^(11-1)-((52:Nat):Int))).toNat=n.log2+1022:=by
  rw [show (2-2^(11-1)-((52:Nat):Int)) = -1074 from rfl]; omega
 rw [e2,e3,show (0-((n.log2:Int)-52)).toNat=52-n.log2 by omega,show (((n.log2:Int)-52)-0).toNat=0 by omega,Ej,Nat.shiftLeft_eq]
 simp only [Bool.false_eq_true,if_false]
 rw [show (2:Nat)^52=4503599627370496 from rfl,show ((2:Nat)^11-1)*4503599627370496=9218868437227405312 from rfl]
 refine Nat.min_eq_left ?_
 generalize n*2^(52-n.log2)=z at hs ⊢
 generalize n.log2=L at hL ⊢
 omega
theorem Zcr (w:Nat):FloatKind.f64.decode w=if w%9223372036854775808<4503599627370496 then .number (w / 9223372036854775808%2==1) (w%9223372036854775808) (-1074)
  else if w%9223372036854775808<9218868437227405312 then .number (w / 9223372036854775808%2==1) (4503599627370496+w%9223372036854775808%4503599627370496) (-1074+(w%9223372036854775808 / 4503599627370496-1:Nat))
  else if w%9223372036854775808=9218868437227405312 then .infinity (w / 9223372036854775808%2==1) else .nan (w / 9223372036854775808%2==1) (w%9223372036854775808-9218868437227405312):=rfl
theorem Su {n:Nat} (h:n≤4503599627370496):FloatKind.f64.decode (fl n)=BM n:=by
 rcases Nat.eq_zero_or_pos n with rfl | h0
 ·rw [Xf]; decide +kernel
 ·have hL:=XY h
  have hs:=scaled h0 h
  rw [ZeQ h0 h]
  unfold BM
  rw [if_neg (by omega)]
  rw [Zcr]
  obtain ⟨y,hy⟩:∃ y,n*2^(52-n.log2)=4503599627370496+y:=⟨n*2^(52-n.log2)-4503599627370496,by omega⟩
  rw [hy] at hs ⊢
  obtain ⟨L,hLe⟩:∃ L,n.log2=L:=⟨_,rfl⟩
  rw [hLe] at hL ⊢
  have h1:(L+1022)*4503599627370496+(4503599627370496+y)=(L+1023)*4503599627370496+y:=by omega
  rw [h1]
  have h2:(L+1023)*4503599627370496≤1075*4503599627370496:=Nat.mul_le_mul_right _ (by omega)
  have h3:((L+1023)*4503599627370496+y)%9223372036854775808=(L+1023)*4503599627370496+y:=Nat.mod_eq_of_lt (by omega)
  have h4:((L+1023)*4503599627370496+y) / 9223372036854775808=0:=Nat.div_eq_of_lt (by omega)
  rw [h3,h4]
  have h5:((L+1023)*4503599627370496+y) / 4503599627370496=L+1023:=by omega
  have h6:((L+1023)*4503599627370496+y)%4503599627370496=y:=by omega
  rw [if_neg (by omega),if_pos (by omega),h5,h6]
  rw [show -1074+((L+1023-1:Nat):Int)=(L:Int)-52 by omega]
  rfl
theorem Sv {n:Nat} (h:n≤4503599627370496):(BM n).integral .zero = .number false n 0:=by
 unfold BM
 rcases Nat.eq_zero_or_pos n with rfl | h0
 ·simp [Ieee.Datum.integral,Ieee.Toward.cut]
 ·have hL:=XY h
  have hs:=scaled h0 h
  rw [if_neg (by omega)]
  unfold Ieee.Datum.integral
  simp only
  rw [show ((n.log2:Int)-52).toNat=0 by omega,show (-((n.log2:Int)-52)).toNat=52-n.log2 by omega,Nat.shiftLeft_zero]
  unfold Ieee.Toward.cut
  simp only [Bool.toNat_false,Nat.add_zero]
  congr 1
  rw [Nat.min_eq_left,Nat.shiftLeft_eq,Nat.one_mul,Nat.mul_div_cancel _ (Nat.pow_pos (by decide))]
  have h1:=Nat.le_log2 (n:=n*2^(52-n.log2)) (k:=52) (by omega)
  have:52≤(n*2^(52-n.log2)).log2:=h1.2 (by rw [show (2:Nat)^52=4503599627370496 from rfl]; omega)
  omega
theorem Ek {n:Nat} (h:n≤4503599627370496):FloatKind.f64.encode ((FloatKind.f64.decode (fl n)).integral .zero)=fl n:=by
 rw [Su h,Sv h]
 unfold fl FloatKind.nearest
 congr 2
theorem El {n:Nat} (h:n≤4503599627370496):(FloatKind.f64.decode (fl n)).toInt .zero=some (n:Int):=by
 rw [Su h]
 unfold Ieee.Datum.toInt
 rw [Sv h]
 simp [Ieee.signed]
theorem Yw {a b:Nat} (ha:a≤4503599627370496) (hb:b≤4503599627370496):FloatKind.f64.format.order (fl a) (fl b)=some (compare (a:Int) (b:Int)):=by
 unfold Ieee.Format.order
 have da:=Su ha
 have db:=Su hb
 unfold FloatKind.decode at da db
 rw [da,db]
 have key:∀ (x y:Int) (c:Nat),0<c→compare (x*c) (y*c)=compare x y:=fun x y c hc=>by
  simp only [Int.compare_eq_ite_lt]
  have hc':(0:Int)<c:=by omega
  have e1:(x*c<y*c)↔x<y:=Int.mul_lt_mul_right hc'
  have e2:(y*c<x*c)↔y<x:=Int.mul_lt_mul_right hc'
  simp [e1,e2]
 unfold BM
 rcases Nat.eq_zero_or_pos a with rfl | h0 <;> rcases Nat.eq_zero_or_pos b with rfl | h1
 ·simp [Ieee.Datum.order,Ieee.signed]
 ·rw [if_pos rfl,if_neg (by omega)]
  have hL:=XY hb
  simp only [Ieee.Datum.order,Ieee.signed,Bool.false_eq_true,if_false]
  have hs:=scaled h1 hb
  rw [Int.min_eq_left (by omega)]
  congr 1
  rw [Nat.zero_shiftLeft,Nat.shiftLeft_eq]
  have:0<b*2^(52-b.log2)*2^((b.log2:Int)-52 - -1074).toNat:=Nat.mul_pos (by omega) (Nat.pow_pos (by decide))
  simp only [Int.compare_eq_ite_lt]
  rw [if_pos (by omega),if_pos (by omega)]
 ·rw [if_neg (by omega),if_pos rfl]
  have hL:=XY ha
  simp only [Ieee.Datum.order,Ieee.signed,Bool.false_eq_true,if_false]
  have hs:=scaled h0 ha
  rw [Int.min_eq_right (by omega)]
  congr 1
  rw [Nat.zero_shiftLeft,Nat.shiftLeft_eq]
  have:0<a*2^(52-a.log2)*2^((a.log2:Int)-52 - -1074).toNat:=Nat.mul_pos (by omega) (Nat.pow_pos (by decide))
  simp only [Int.compare_eq_ite_lt]
  rw [if_neg (by omega),if_pos (by omega),if_neg (by omega),if_pos (by omega)]
 ·rw [if_neg (by omega),if_neg (by omega)]
  have hLa:=XY ha
  have hLb:=XY hb
  simp only [Ieee.Datum.order,Ieee.signed,Bool.false_eq_true,if_false]
  congr 1
  rw [Nat.shiftLeft_eq,Nat.shiftLeft_eq]
  obtain ⟨L,hL⟩:∃ L,min a.log2 b.log2=L:=⟨_,rfl⟩
  have hm:min ((a.log2:Int)-52) ((b.log2:Int)-52)=(L:Int)-52:=by omega
  rw [hm,show ((a.log2:Int)-52-((L:Int)-52)).toNat=a.log2-L by omega,show ((b.log2:Int)-52-((L:Int)-52)).toNat=b.log2-L by omega]
  rw [Nat.mul_assoc,Nat.mul_assoc,← Nat.pow_add,← Nat.pow_add,show 52-a.log2+(a.log2-L)=52-L by omega,show 52-b.log2+(b.log2-L)=52-L by omega,
   Int.natCast_mul,Int.natCast_mul]
  exact key _ _ _ (Nat.pow_pos (by decide))
end Go.Proofs.YtheflbaejhlboaaGreatDoor
