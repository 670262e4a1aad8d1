/- A part of the proof of a law of package confluencetop: lemmas, no condition of ours. -/
import Derived.Test.YtheflbaejhlboaaGreatDoorTopUn8
import Derived.Test.YtheflbaejhlboaaGreatDoorTopUn0
import Derived.Deep.Strs
import Derived.SizedLaws
set_option linter.unusedVariables false
set_option linter.unusedSectionVars false
set_option linter.unusedSimpArgs false
namespace Go.Proofs.YtheflbaejhlboaaGreatDoor
open Go.RowKit Go.ChangeShapes Go.WideShapes Go.Deep
def Ziw (w:World) (b o:Nat):Prop :=
 ∃ (tab:ByteArray) (rv:Value) (r:List Vl) (rem:Bool),w.cell? ⟨b,o,none⟩=some (.string tab)∧w.cell? ⟨b,o+1,none⟩=some rv∧w.cell? ⟨b,o+2,none⟩=some (.bool rem)∧Zq (fun k=>k<w.heap.size) w rv r
def BE (w:World) (A:Option Addr) (n c:Nat):Prop :=
 n≤c∧c≤9223372036854775807∧(0<n→∃ b off,A=some ⟨b,off,none⟩∧b<w.heap.size∧∀ i,i<n→Ziw w b (off+i*3))
section
variable {H:Type} {enc:TypeId×Value→H} {P:Program} {w:World} {base:Nat} {held:Bool}
theorem Zcp {t:TypeId} {f0 f1 f2:Field} {fuel:Nat} {cs:List Value} {x:DataW H×List MemPlace} (ht:P.underlying t=some (.struct #[f0,f1,f2])) (h:DataW.trod enc P w base (fun _=>true) held fuel t cs=some x) :
  ∃ y0 y1 y2 n,DataW.trod enc P w base (fun _=>true) held n f0.type ((cs.drop f0.offset).take (P.cellsOf f0.type))=some y0 ∧
   DataW.trod enc P w base (fun _=>true) held n f1.type ((cs.drop f1.offset).take (P.cellsOf f1.type))=some y1∧DataW.trod enc P w base (fun _=>true) held n f2.type ((cs.drop f2.offset).take (P.cellsOf f2.type))=some y2:=by
 obtain ⟨xs,n,_,rfl,hl,hlen,hf⟩:=DataW.trod_struct ht h
 match xs,hlen with
 | [y0,y1,y2],_=>exact ⟨y0,y1,y2,n,by simpa using hf 0 f0 rfl,by simpa using hf 1 f1 rfl,by simpa using hf 2 f2 rfl⟩
theorem add_zero' (p:Addr):p.add 0=p:=by obtain ⟨b,off,spot⟩:=p; unfold Addr.add; split <;> simp_all
theorem ZgT (s:ByteArray):s=str s.data.toList:=by cases s; rfl
structure BL (P:Program) (e:TypeId) (f0 f1 f2:Field):Prop where
 he:P.underlying e=some (.struct #[f0,f1,f2])
 ce:P.cellsOf e=3
 o0:f0.offset=0
 o1:f1.offset=1
 o2:f2.offset=2
 c0:P.cellsOf f0.type=1
 c1:P.cellsOf f1.type=1
 c2:P.cellsOf f2.type=1
theorem F1 {e:TypeId} {f0 f1 f2:Field} {fuel:Nat} {p:Addr} {cs:List Value} {x:DataW H×List MemPlace} (T:BL P e f0 f1 f2) (hc:w.cells? base p (P.cellsOf e)=some cs) (h:DataW.trod enc P w base (fun _=>true) held fuel e cs=some x) :
  ∃ u0 u1 u2 y0 y1 y2 n,w.cell? p=some u0∧w.cell? (p.add 1)=some u1∧w.cell? (p.add 2)=some u2∧DataW.trod enc P w base (fun _=>true) held n f0.type [u0]=some y0∧DataW.trod enc P w base (fun _=>true) held n f1.type [u1]=some y1∧DataW.trod enc P w base (fun _=>true) held n f2.type [u2]=some y2:=by
 rw [T.ce] at hc
 obtain ⟨_,hcl,hat⟩:=World.cells?_some hc
 obtain ⟨y0,y1,y2,n',h0,h1,h2⟩:=Zcp T.he h
 rw [T.o0,T.c0] at h0
 rw [T.o1,T.c1] at h1
 rw [T.o2,T.c2] at h2
 match cs,hcl with
 | [u0,u1,u2],_ =>
  simp only [List.drop_zero,List.take_succ_cons,List.take_zero,List.drop_succ_cons] at h0 h1 h2
  have q0:=hat 0 (by omega)
  have q1:=hat 1 (by omega)
  have q2:=hat 2 (by omega)
  rw [add_zero'] at q0
  exact ⟨u0,u1,u2,y0,y1,y2,n',by simpa using q0,by simpa using q1,by simpa using q2,h0,h1,h2⟩
theorem N2 {a:Addr} {u:Value} (q0:w.cell? (a.add (0*3))=some u):a.spot=none:=by
 simpa [Addr.add] using World.cell?_spot q0
theorem Zcq {t e:TypeId} {f0 f1 f2:Field} {fuel:Nat} {v:Value} {x:DataW H×List MemPlace} (ht:P.underlying t=some (.slice e)) (T:BL P e f0 f1 f2)
  (t0:P.underlying f0.type=some (.int .i64)) (t1:P.underlying f1.type=some (.int .i64)) (t2:P.underlying f2.type=some .string)
  (h:DataW.trod enc P w base (fun _=>true) held fuel t [v]=some x):∃ r,Zq (fun k=>k<w.heap.size) w v r:=by
 rcases open_slice ht h with ⟨hcs,_⟩ | ⟨a,len,cap,m,n,D,Pl,hcs,hbase,hl,hm,hmm,hx,hi⟩
 ·simp at hcs
  exact ⟨[],none,0,hcs,Nat.le_refl _,by decide,fun h=>absurd h (by simp)⟩
 ·simp only [if_true] at hmm
  simp at hcs
  have hall:∀ i,∃ x:Vl,i<len→w.cell? (a.add (i*3))=some (.int .i64 x.k)∧w.cell? ((a.add (i*3)).add 1)=some (.int .i64 x.n)∧w.cell? ((a.add (i*3)).add 2)=some (.string (str x.s))∧x.s.length≤9223372036854775807:=fun i=>by
   by_cases hil:i<len
   ·obtain ⟨cs',hc,ht'⟩:=hi i (by omega)
    rw [T.ce] at hc
    obtain ⟨u0,u1,u2,y0,y1,y2,n',q0,q1,q2,h0,h1,h2⟩:=F1 T (by rw [T.ce]; exact hc) ht'
    obtain ⟨k0,e0,_,w0⟩:=DataW.trod_int t0 h0
    obtain ⟨k1,e1,_,w1⟩:=DataW.trod_int t1 h1
    obtain ⟨s,e2,x2,w2⟩:=DataW.trod_string t2 h2
    injection e0 with e0 _
    injection e1 with e1 _
    injection e2 with e2 _
    subst e0; subst e1; subst e2
    refine ⟨⟨k0,k1,s.data.toList⟩,fun _=>⟨q0,q1,by rw [← ZgT]; exact q2,?_⟩⟩
    have e:s.data.toList.length=s.size:=by rw [Array.length_toList]; rfl
    show s.data.toList.length≤_
    rw [e]
    simpa [maxLen] using w2
   ·exact ⟨⟨0,0,[]⟩,fun h=>absurd h hil⟩
  obtain ⟨f,hf⟩:=Classical.axiomOfChoice hall
  have hlen:((List.range len).map f).length=len:=by simp
  refine ⟨(List.range len).map f,some a,cap,by rw [hlen]; exact hcs,by rw [hlen]; exact hl,by simpa [maxLen] using hm,fun h0 => ?_⟩
  rw [hlen] at h0
  have hs:=N2 (hf 0 h0).1
  obtain ⟨b,off,spot⟩:=a
  simp only at hs
  subst hs
  refine ⟨b,off,rfl,?_,?_,fun i x hx => ?_⟩
  ·have:=World.block_lt_of_cell? w _ (hf 0 h0).1
   rwa [QN] at this
  ·have:=World.block_lt_of_cell? w _ (hf 0 h0).1
   rwa [QN] at this
  ·have hil:i<len:=by
    have:=(List.getElem?_eq_some_iff.1 hx).1
    rwa [hlen] at this
   obtain ⟨q0,q1,q2,q3⟩:=hf i hil
   have hx':f i=x:=by simpa [hil] using hx
   subst hx'
   rw [QN] at q0
   rw [QN,QN] at q1 q2
   exact ⟨q0,q1,q2,q3⟩
theorem Ef {t e er ev:TypeId} {f0 f1 f2 g0 g1 g2:Field} {fuel:Nat} {v:Value} {x:DataW H×List MemPlace} (ht:P.underlying t=some (.slice e)) (T:BL P e f0 f1 f2)
  (t0:P.underlying f0.type=some .string) (t1:P.underlying f1.type=some (.slice ev)) (t2:P.underlying f2.type=some .bool)
  (G:BL P ev g0 g1 g2) (s0:P.underlying g0.type=some (.int .i64)) (s1:P.underlying g1.type=some (.int .i64)) (s2:P.underlying g2.type=some .string)
  (h:DataW.trod enc P w base (fun _=>true) held fuel t [v]=some x):∃ A n c,v = .slice A n c∧BE w A n c:=by
 rcases open_slice ht h with ⟨hcs,_⟩ | ⟨a,len,cap,m,n,D,Pl,hcs,hbase,hl,hm,hmm,hx,hi⟩
 ·simp at hcs
  exact ⟨none,0,0,hcs,Nat.le_refl _,by omega,fun h=>absurd h (by omega)⟩
 ·simp only [if_true] at hmm
  simp at hcs
  refine ⟨some a,len,cap,hcs,hl,by simpa [maxLen] using hm,fun h0 => ?_⟩
  have hall:∀ i,i<len→∃ (tab:ByteArray) (rv:Value) (r:List Vl) (rem:Bool),w.cell? (a.add (i*3))=some (.string tab)∧w.cell? ((a.add (i*3)).add 1)=some rv∧w.cell? ((a.add (i*3)).add 2)=some (.bool rem)∧Zq (fun k=>k<w.heap.size) w rv r:=fun i hil=>by
   obtain ⟨cs',hc,ht'⟩:=hi i (by omega)
   rw [T.ce] at hc
   obtain ⟨u0,u1,u2,y0,y1,y2,n',q0,q1,q2,h0,h1,h2⟩:=F1 T (by rw [T.ce]; exact hc) ht'
   obtain ⟨s,e0,x0,w0⟩:=DataW.trod_string t0 h0
   obtain ⟨r,hr⟩:=Zcq t1 G s0 s1 s2 h1
   obtain ⟨bb,e2,_⟩:=DataW.trod_bool t2 h2
   injection e0 with e0 _
   injection e2 with e2 _
   subst e0; subst e2
   exact ⟨s,u1,r,bb,q0,q1,q2,hr⟩
  have hs:a.spot=none:=by
   obtain ⟨_,_,_,_,q0,_⟩:=hall 0 h0
   exact N2 q0
  obtain ⟨b,off,spot⟩:=a
  simp only at hs
  subst hs
  refine ⟨b,off,rfl,?_,fun i hil => ?_⟩
  ·obtain ⟨_,_,_,_,q0,_⟩:=hall 0 h0
   have:=World.block_lt_of_cell? w _ q0
   rwa [QN] at this
  ·obtain ⟨tab,rv,r,rem,q0,q1,q2,q3⟩:=hall i hil
   rw [QN] at q0
   rw [QN,QN] at q1 q2
   exact ⟨tab,rv,r,rem,q0,q1,q2,q3⟩
end
end Go.Proofs.YtheflbaejhlboaaGreatDoor
