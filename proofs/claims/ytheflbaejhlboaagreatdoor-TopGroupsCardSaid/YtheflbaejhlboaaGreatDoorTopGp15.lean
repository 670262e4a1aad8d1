/- Lemmas for a law of confluencetop. -/
import Derived.Test.YtheflbaejhlboaaGreatDoorTopGp14
set_option linter.all false
set_option maxHeartbeats 8000000
set_option maxRecDepth 1000000
namespace Go.Proofs.YtheflbaejhlboaaGreatDoor
open Tryz
namespace Ev
open Go Go.Proofs
noncomputable section
def pU0:Ent:=⟨97,[(vX 61 128497237322206840012739639420797504354561208177332872143965939019997696772410750106079373447194205517207026308317207902846656296538485554150532904)],
 [],
 0,(.tuple [(.agg [(vI 7),(vX 0 0),.Za,.Za,(vL 187 0 1),.Za,(vL 218 0 4),(vL 227 0 1)]),(vI 0),(vI 0)]),
 [(187,bO [(vX 1 97)] 1),
 (218,bO [(vX 1 110),(vX 5 500069396323),(vX 0 0),(vX 1 109),(vX 3 7173491),(vX 1 99),(vX 1 111),(vX 3 7235949),(vX 1 99),(vX 1 112),(vX 3 7889261),(vX 1 99)] 3),
 (227,bO [(vI 1),(vX 1 117),.Za,.Za,.Za,.Za,.Za,.Za] 8)],409⟩
def RL:List (Nat×Orc):=[(97,upO [pU0])]
def ZlY:List (Nat×Zd):=[(0,bC [(vP 1 0),(vL 4 0 1),(vM 6),(vP 7 0)] 0),
 (1,bC [(vL 2 0 1),.Za] 0),
 (2,bO [(vX 1 117),(vL 3 0 2)] 2),
 (3,bO [(vX 1 97),(vI 1),(vX 1 99),(vI 1)] 2),
 (4,bO [(vX 1 117),(vL 5 0 2),.Za] 3),
 (5,bO [(vX 1 97),(vI 1),(vX 1 99),(vI 1)] 2),
 (6,bM [] 0),
 (7,bC [(vI 1),(vI 0),(vI 0),(vX 0 0),(vI 0),(vI 0),(vI 0),(vX 0 0),(vI 0),(vI 0),(vI 0),(vX 0 0),(vI 0),(vI 0),(vI 0),(vX 0 0),(vI 0),(vI 0),(vI 0),(vX 0 0),(vI 0),(vI 0),(vI 0),(vX 0 0),(vI 0),(vI 0),(vI 0),(vX 0 0),(vI 0),(vI 0),(vI 0),(vX 0 0),(vI 0),(vI 0),(vI 0),(vX 0 0),(vI 0),(vI 0),(vI 0),(vX 0 0),(vI 0),(vI 0),(vI 0),(vX 0 0),(vI 0),(vI 0),(vI 0),(vX 0 0),(vI 0),(vI 0),(vI 0),(vX 0 0),(vI 0),(vI 0),(vI 0),(vX 0 0),(vI 0),(vI 0),(vI 0),(vX 0 0),(vI 0),(vI 0),(vI 0),(vX 0 0)] 0)]
def uZ:List (Nat×Zd):=[(0,bC [(vP 1 0),(vL 9 0 1),(vM 12),(vP 34 0)] 0),
 (1,bC [(vL 2 0 1),(vL 4 0 1)] 0),
 (2,bO [(vX 1 117),(vL 3 0 2)] 2),
 (3,bO [(vX 1 97),(vI 1),(vX 1 99),(vI 1)] 2),
 (4,bO [(vX 1 118),(vX 61 128497237322206840012739639420797504354561208177332872143965939019997696772410750106079373447194205517207026308317207902846656296538485554150532904),(vI 7),(vX 0 0),.Za,.Za,(vL 5 0 1),.Za,(vL 6 0 4),(vL 7 0 1),(vL 8 0 5)] 11),
 (5,bO [(vX 1 97)] 1),
 (6,bO [(vX 1 110),(vX 5 500069396323),(vX 0 0),(vX 1 109),(vX 3 7173491),(vX 1 99),(vX 1 111),(vX 3 7235949),(vX 1 99),(vX 1 112),(vX 3 7889261),(vX 1 99)] 3),
 (7,bO [(vI 1),(vX 1 117),.Za,.Za,.Za,.Za,.Za,.Za] 8),
 (8,bO [(vX 1 97),(vI 1),(vX 1 110),(vI 1),(vX 1 109),(vI 1),(vX 1 111),(vI 1),(vX 1 112),(vI 1)] 2),
 (9,bO [(vX 1 117),(vL 10 0 2),(.gho 11 1)] 3),
 (10,bO [(vX 1 97),(vI 1),(vX 1 99),(vI 1)] 2),
 (12,bM [((vX 1 118),(vP 13 0),0)] 1),
 (13,bC [(vP 14 0),(vL 30 0 1),(vM 32)] 0),
 (14,bC [(vI 7),(vX 0 0),.Za,.Za,(vL 15 0 1),.Za,(vL 16 0 4),(vL 17 0 1),(vL 18 0 5),(vL 19 0 1),(vL 23 0 1),(.gho 24 2),(vP 25 0),.Zo,.Zo] 0),
 (15,bO [(vX 1 97)] 1),
 (16,bO [(vX 1 110),(vX 5 500069396323),(vX 0 0),(vX 1 109),(vX 3 7173491),(vX 1 99),(vX 1 111),(vX 3 7235949),(vX 1 99),(vX 1 112),(vX 3 7889261),(vX 1 99)] 3),
 (17,bO [(vI 1),(vX 1 117),.Za,.Za,.Za,.Za,.Za,.Za] 8),
 (18,bO [(vX 1 97),(vI 1),(vX 1 110),(vI 1),(vX 1 109),(vI 1),(vX 1 111),(vI 1),(vX 1 112),(vI 1)] 2),
 (19,bO [(vP 20 0)] 1),
 (20,bC [(vI 1),(vX 1 117),.Za,.Za,.Za,.Za,.Za,.Za,(vL 21 0 2),.Za,.Za,(.gho 22 1),.Zo,.Zo,.Zo] 0),
 (21,bO [(vX 1 97),(vI 1),(vX 1 99),(vI 1)] 2),
 (23,bO [(vL 21 0 2)] 1),
 (25,bC [(vL 26 0 1),(vL 27 0 4),(vM 28)] 0),
 (26,bO [(vI 0)] 1),
 (27,bO [(vX 5 500069396323),(vI 0),(vX 3 7173491),(vI 1),(vX 3 7235949),(vI 1),(vX 3 7889261),(vI 1)] 2),
 (28,(.opq 29 3)),
 (30,bO [(vX 1 117),(vL 31 0 2)] 2),
 (31,bO [(vX 1 97),(vI 1),(vX 1 99),(vI 1)] 2),
 (32,bM [((vX 1 117),(.gho 33 1),0)] 1),
 (34,bC [(.sint .i64 (.ofNat 2) (.ofNat 1) (.ofNat 0)),(.sint .i64 (.ofNat 0) (.ofNat 0) (.ofNat 1)),(vI 0),(vX 0 0),(vI 0),(vI 0),(vI 0),(vX 0 0),(vI 0),(vI 0),(vI 0),(vX 0 0),(vI 0),(vI 0),(vI 0),(vX 0 0),(vI 0),(vI 0),(vI 0),(vX 0 0),(vI 0),(vI 0),(vI 0),(vX 0 0),(vI 0),(vI 0),(vI 0),(vX 0 0),(vI 0),(vI 0),(vI 0),(vX 0 0),(vI 0),(vI 0),(vI 0),(vX 0 0),(vI 0),(vI 0),(vI 0),(vX 0 0),(vI 0),(vI 0),(vI 0),(vX 0 0),(vI 0),(vI 0),(vI 0),(vX 0 0),(vI 0),(vI 0),(vI 0),(vX 0 0),(vI 0),(vI 0),(vI 0),(vX 0 0),(vI 0),(vI 0),(vI 0),(vX 0 0),(vI 0),(vI 0),(vI 0),(vX 0 0)] 0)]
def V2:Vd:=⟨false,0,0,uY 8 [],[],[],[],ZlY,8,[]⟩
def V4:Vd:=⟨true,0,0,[0,1,2,3,4,5,6,7,8,9,10,12,13,14,15,16,17,18,19,20,21,23,25,26,27,28,30,31,32,34],[(11,0),(22,0),(24,0),(29,0),(33,0)],[],[1,2],uZ,35,[3]⟩
def VU:Vd:=⟨false,1,0,uY 35 [],[],[(9,1),(10,2),(11,3)],[],uZ,35,[]⟩
def VA:Vd:=⟨false,1,25,uY 35 [],[],[(1,1),(2,2),(3,3)],[],uZ,35,[]⟩
def eT1:Zb:=(.agg [(vI 0),(vI 0),(vI 1),(vX 1 117),(vX 0 0),(vL 7 0 2),.Za])
def eT2:Zb:=(.agg [(vI 0),(vI 0),(vI 3),(vX 1 118),(vX 61 128497237322206840012739639420797504354561208177332872143965939019997696772410750106079373447194205517207026308317207902846656296538485554150532904),.Za,.Za])
def Uw:Zb := .agg [vI 0,vI 0,vX 0 0]
def ZlZ:Zb := .agg [vI 25,vI 0,vX 0 0]
def txN:Zb := .str [118]
def txV:Zb:=(.str [40,103,114,111,117,112,32,40,97,41,32,40,110,32,99,111,117,110,116,41,32,40,109,32,115,117,109,32,99,41,32,40,111,32,109,105,110,32,99,41,32,40,112,32,109,97,120,32,99,41,32,40,116,97,98,108,101,32,117,41,41])
def BRd:YG:={ fn:=fun f=>fnT.get f,Zf:=Vu,reg:=fun _ _=>none,orc:=fun f=>(Z8 (OL++RL) .lf).get f }
def BG (t:Tb):YG:={ fn:=fun f=>fnT.get f,Zf:=Vu,reg:=fun _ _=>none,orc:=fun f=>(Z8 (OL++(RL++glL t)) .lf).get f }
def cR:Zz:=Hg prog BRd ME 1000000 200
def cG (t:Tb):Zz:=Hg prog (BG t) ME 1000000 200
def knd:List Int:=[1,1]
def kfK:List Nat:=[0]
def kfF:List (List UInt8×Nat):=[([99,111,117,110,116],0),([115,117,109],1),([109,105,110],1),([109,97,120],1)]
def tbR:Tb:={ copy:=[(1,1)],Zbg:=[1],plain:=[1],Hx:=[1],rows:=[(8,knd)],kinds:=[(1,knd)],Zbh:=[(1,8,false)] }
def tbU (b:Bool):Tb:={
 add:=[(9,16,13),(1,13,9),(2,14,10)],put:=[(1,8,b,9)],flip:=[(1,16)],copy:=[(1,1),(14,14)],Zbg:=[1,9,13],plain:=[1,9],Hx:=[1,2,9,10],CD:=[1],rows:=[(8,knd)],
 kinds:=[(1,knd),(13,knd)],Zbh:=sel b [] [(1,8,true)],kf:=[(3,kfK,kfF)],chg:=[(3,13,11,14)] }
def tbE:Tb:={ copy:=[(2,2)] }
def ZdC:Zb:=(.str [117])
def stU (b:Bool):St:=((VA.S).Vz).new (.cells [ZdC,.gho 35 8,.bool b] 3 false)
def Sk (t:Tb) (V:Vd) (b:Bool) (rep:Zb):Bool :=
 Wr (cG t 16 [.slice 36 0 1 none] (stU b)) fun e s=>Wr (cG t 11 [e,vI 0,.sint .i64 (.ofNat 3) (.ofNat 1) (.ofNat 0)] s) fun b s =>
  Wr (cG t 10 [.ptr 0 0,b] s) fun r s=>sel (XL r rep) (KP V (.ptr 0 0) s) false
def Zio:Bool :=
 Wr (cR 9 [] ⟨.lf,0⟩) fun g s=>sel (XL g (.ptr 3 0)) (Wr (cR 13 [] s) fun ct s=>Wr (cR 12 [ZdC,ct] s) fun e1 s=>sel (XL e1 eT1)
  (Wr (cR 11 [eT1,vI 0,vI 1] s) fun b s=>Wr (cR 10 [.ptr 3 0,b] s) fun r s=>sel (XL r Uw) (KP V2 (.ptr 3 0) s) false) false) false
def preB:Bool:=Wr (cR 14 [txN,txV] V2.S) fun e s=>sel (XL e eT2) (Wr (cR 11 [eT2,vI 0,vI 2] s) fun b s=>Wr (cR 10 [.ptr 0 0,b] s) fun r s=>sel (XL r Uw) (KP V4 (.ptr 0 0) s) false) false
def isSet (v:Zb) (t:Nat):Bool:=match v with
 | .tuple [.gho _ a,.bool true]=>Nat.beq a t
 | _=>false
def Zhq:Bool:=Wr (cG tbE 19 [.ptr 0 0,txN] VA.S) fun r s=>isSet r 2
end
end Ev
section
open Go Go.RowKit
abbrev Zbk:List Vl->Prop:=Sc true
noncomputable abbrev cfs:List (ByteArray×Nat):=Ev.YH Ev.kfF
def gN (a:Int):List UInt8:=nmR Ev.kfK [⟨1,a,[]⟩]
def cKS:List (List UInt8):=(List.range 7).map fun i:Nat=>gN ((i:Int)-3)
theorem ZkG {a:Int} (h : -3<=a/\a<=3):gN a∈cKS :=
 List.mem_map.2 ⟨(a+3).toNat,List.mem_range.2 (by omega),by rw [show (((a+3).toNat:Nat):Int)-3=a by omega]⟩
theorem JL:Uq Zbk Ev.kfK cfs cKS where
 su:=fun r h=>by
  refine ⟨fun f hf => ?_,fun n hn => ?_,h.right.1⟩
  ·obtain ⟨n,m,rfl,h1,h2⟩:=h;simp only [cfs,Ev.YH,Ev.kfF,List.map_cons,List.map_nil,List.mem_cons,List.not_mem_nil,or_false] at hf;rcases hf with rfl | rfl | rfl | rfl
   ·exact .inl rfl
   ·exact .inr (.inl ⟨rfl,⟨1,m,[]⟩,rfl,rfl⟩)
   ·exact .inr (.inr ⟨.inl rfl,Nat.le_refl 2⟩)
   ·exact .inr (.inr ⟨.inr rfl,Nat.le_refl 2⟩)
  ·have hn:n∈[0]:=hn;rw [List.mem_singleton.1 hn];obtain ⟨n,m,rfl,h1,h2⟩:=h;simp
 rn:=fun r h=>h.rn
 big:=fun r h=>h.big
 nm:=fun r h=>by
  obtain ⟨n,m,rfl,h1,h2⟩:=h;exact ZkG h1
 few:=Nat.le_of_ble_eq_true rfl
 n0:=Nat.le_of_ble_eq_true rfl
 n6:=Nat.le_of_ble_eq_true rfl
abbrev LC:=Jp Zbk
noncomputable abbrev cO (T:Zs):Zs:=Ve Ev.kfK cfs T
noncomputable def cM (T:Zs) (b:Bool) (x:List Vl) (t:Nat):Mn:=match t with
 | 0 => .nz
 | 1 => .set T
 | 2 => .set (cO T)
 | 3 => .obj (Wo Ev.kfK cfs T)
 | 8 => .row x
 | 9 => .set (Ql x (sd b) T)
 | 10 => .set (cO (Ql x (sd b) T))
 | 11 => .obj (Wo Ev.kfK cfs (Ql x (sd b) T))
 | 13 => .set [(x,sd b)]
 | 14 => .set (Lz Ev.kfK cfs T (Ql x (sd b) T))
 | 16 => .set (Xh T)
 | _ => .none
theorem zR {T:Zs} {b:Bool} {x:List Vl} (a:Nat) (φ : (Nat->Prop)->World->Obj->Prop) (h:cM T b x a = .obj φ):∀ F w o,φ F w o->∃ es c,o = .map es c:=by
 intro F w o ho;have h1:∀ (S:Zs),Wo Ev.kfK cfs S F w o->∃ es c,o = .map es c:=fun S ⟨es,c,f,e,_⟩=>⟨es,c,e⟩
 unfold cM at h;split at h <;> first | (cases h; done) | (injection h with h; subst h; exact h1 _ ho)
noncomputable def cB (T:Zs) (t:Nat):Mn:=match t with
 | 0 => .nz
 | 1 => .set T
 | 2 => .set (cO T)
 | 3 => .obj (Wo Ev.kfK cfs T)
 | _ => .none
theorem Ziq {T:Zs} (a:Nat) (φ : (Nat->Prop)->World->Obj->Prop) (h:cB T a = .obj φ):∀ F w o,φ F w o->∃ es c,o = .map es c:=by
 intro F w o ho;have h1:∀ (S:Zs),Wo Ev.kfK cfs S F w o->∃ es c,o = .map es c:=fun S ⟨es,c,f,e,_⟩=>⟨es,c,e⟩
 unfold cB at h;split at h <;> first | (cases h; done) | (injection h with h; subst h; exact h1 _ ho)
theorem Zl0 (T:Zs) (b:Bool) (r:List Vl):∀ t F w v,QK (cB T) t F w v->QK (cM T b r) t F w v:=by
 intro t F w v h;unfold cB QK at h;unfold cM QK
 match t,h with
 | 0,h=>exact h
 | 1,h=>exact h
 | 2,h=>exact h
 | 3,h=>exact h
 | (t+4),h=>exact absurd h (by simp)
theorem ZkH (T:Zs) (b:Bool) (r:List Vl):∀ t F w o,Ks (cB T) t F w o->Ks (cM T b r) t F w o:=by
 intro t F w o h;unfold cB Ks at h;unfold cM Ks
 match t,h with
 | 0,h=>exact h
 | 1,h=>exact h
 | 2,h=>exact h
 | 3,h=>exact h
 | (t+4),h=>exact absurd h (by simp)
open Ev in
theorem ZkI {k:Nat} (hk:k+1<=40) {T:Zs} (h:LC k T) {x:List Vl} (hx:Zbk x) (hno:nf T x=0):Zdv (cM T true x) tbR:=by
 obtain ⟨r1,r3⟩:=hx.right;refine ⟨rfl,?_,?_,?_,?_,?_,?_,?_,?_,?_,?_,?_,?_,zR⟩
 all_goals intro a
 ·intro _ _ h; cases h
 ·intro _ _ _ h; cases h
 ·intro _ h; cases h
 ·intro c hc;simp only [tbR,List.mem_cons,List.not_mem_nil,or_false,Prod.mk.injEq] at hc;obtain ⟨rfl,rfl⟩:=hc;exact ⟨T,rfl,rfl,h.t.sm (by omega)⟩
 ·intro hc;simp only [tbR,List.mem_cons,List.not_mem_nil,or_false] at hc;subst hc;exact ⟨_,rfl⟩
 ·intro hc;simp only [tbR,List.mem_cons,List.not_mem_nil,or_false] at hc;subst hc;exact ⟨_,rfl,h.pos⟩
 ·intro hc;simp only [tbR,List.mem_cons,List.not_mem_nil,or_false] at hc;subst hc;exact ⟨_,rfl,by have:=h.t.sum; omega⟩
 ·intro h; cases h
 ·intro ks hc;simp only [tbR,List.mem_cons,List.not_mem_nil,or_false,Prod.mk.injEq] at hc;obtain ⟨rfl,rfl⟩:=hc;exact ⟨x,rfl,r3⟩
 ·intro ks hc;simp only [tbR,List.mem_cons,List.not_mem_nil,or_false,Prod.mk.injEq] at hc;obtain ⟨rfl,rfl⟩:=hc;exact ⟨_,rfl,fun p hp=>(h.row p hp).right.2⟩
 ·intro r b hc;simp only [tbR,List.mem_cons,List.not_mem_nil,or_false,Prod.mk.injEq] at hc;obtain ⟨rfl,rfl,rfl⟩:=hc;refine ⟨T,x,rfl,rfl,?_,((h.t.sm (by omega)).net x).1,((h.t.sm (by omega)).net x).2⟩;rw [Ct h.t.set r1];simp [hno]
 ·intro _ _ _ _ h; cases h
open Ev in
theorem ZkJ {k:Nat} (hk:k+1<=40) {T:Zs} (h:LC k T) {b:Bool} {x:List Vl} (hx:Zbk x) (hb:b=false->1<=nf T x):Zdv (cM T b x) (tbU b):=by
 obtain ⟨r1,r3⟩:=hx.right;have hs:=Zdf b;have h2:=h.step JL hx hb;have m1:Sm T:=h.t.sm (by omega);have m2:Sm (cO T):=(h.out JL (by omega)).sm (by omega);have m9:Sm (Ql x (sd b) T):=h2.t.sm (by omega);have m10:Sm (cO (Ql x (sd b) T)):=(h2.out JL hk).sm (by omega);have m13:Sm [(x,sd b)]:=(Hl r1 hs).sm (by omega);have b14:=h.Zku JL hx hb hk;have m14:Sm (Lz kfK cfs T (Ql x (sd b) T)):=b14.sm (by omega);refine ⟨rfl,?_,?_,?_,?_,?_,?_,?_,?_,?_,?_,?_,?_,zR⟩
 all_goals intro a
 ·intro a2 c hc;have hc:(a,a2,c)∈[(9,16,13),(1,13,9),(2,14,10)]:=hc;simp only [List.mem_cons,List.not_mem_nil,or_false,Prod.mk.injEq] at hc;rcases hc with ⟨rfl,rfl,rfl⟩ | ⟨rfl,rfl,rfl⟩ | ⟨rfl,rfl,rfl⟩
  ·exact ⟨_,_,_,rfl,rfl,rfl,m13,fun r=>by rw [R8,X5,T3]; omega⟩
  ·exact ⟨_,_,_,rfl,rfl,rfl,m9,fun r=>by rw [R8,X5]⟩
  ·exact ⟨_,_,_,rfl,rfl,rfl,m10,fun r=>Zdg _ _ _ _ r⟩
 ·intro r b' c hc;have hc:(a,r,b',c)∈[(1,8,b,9)]:=hc;simp only [List.mem_cons,List.not_mem_nil,or_false,Prod.mk.injEq] at hc;obtain ⟨rfl,rfl,rfl,rfl⟩:=hc;refine ⟨T,x,_,rfl,rfl,rfl,m9,fun r => ?_⟩;rw [X5];rfl
 ·intro c hc;have hc:(a,c)∈[(1,16)]:=hc;simp only [List.mem_cons,List.not_mem_nil,or_false,Prod.mk.injEq] at hc;obtain ⟨rfl,rfl⟩:=hc;exact ⟨_,_,rfl,rfl,m1,m1.flip,T3 _⟩
 ·intro c hc;have hc:(a,c)∈[(1,1),(14,14)]:=hc;simp only [List.mem_cons,List.not_mem_nil,or_false,Prod.mk.injEq] at hc;rcases hc with ⟨rfl,rfl⟩ | ⟨rfl,rfl⟩
  ·exact ⟨_,rfl,rfl,m1⟩
  ·exact ⟨_,rfl,rfl,m14⟩
 ·intro hc;have hc:a∈[1,9,13]:=hc;simp only [List.mem_cons,List.not_mem_nil,or_false] at hc;rcases hc with rfl | rfl | rfl <;> exact ⟨_,rfl⟩
 ·intro hc;have hc:a∈[1,9]:=hc;simp only [List.mem_cons,List.not_mem_nil,or_false] at hc;rcases hc with rfl | rfl
  ·exact ⟨_,rfl,h.pos⟩
  ·exact ⟨_,rfl,h2.pos⟩
 ·intro hc;have hc:a∈[1,2,9,10]:=hc;simp only [List.mem_cons,List.not_mem_nil,or_false] at hc;rcases hc with rfl | rfl | rfl | rfl
  ·exact ⟨_,rfl,by have:=h.t.sum; omega⟩
  ·exact ⟨_,rfl,by have:=(h.out JL (by omega)).sum; show ZU (Zi (Ve kfK cfs T))<513; omega⟩
  ·exact ⟨_,rfl,by have:=h2.t.sum; omega⟩
  ·exact ⟨_,rfl,by have:=(h2.out JL hk).sum; show ZU (Zi (Ve kfK cfs (Ql x (sd b) T)))<513; omega⟩
 ·intro hc;have hc:a∈[1]:=hc;simp only [List.mem_cons,List.not_mem_nil,or_false] at hc;subst hc;exact ⟨_,rfl,by have:=h.t.sum; omega⟩
 ·intro ks hc;have hc:(a,ks)∈[(8,knd)]:=hc;simp only [List.mem_cons,List.not_mem_nil,or_false,Prod.mk.injEq] at hc;obtain ⟨rfl,rfl⟩:=hc;exact ⟨x,rfl,r3⟩
 ·intro ks hc;have hc:(a,ks)∈[(1,knd),(13,knd)]:=hc;simp only [List.mem_cons,List.not_mem_nil,or_false,Prod.mk.injEq] at hc;rcases hc with ⟨rfl,rfl⟩ | ⟨rfl,rfl⟩
  ·exact ⟨_,rfl,fun p hp=>(h.row p hp).right.2⟩
  ·exact ⟨_,rfl,fun p hp=>by rw [List.mem_singleton.1 hp]; exact r3⟩
 ·intro r b' hc;cases b
  ·have hc:(a,r,b')∈[(1,8,true)]:=hc;simp only [List.mem_cons,List.not_mem_nil,or_false,Prod.mk.injEq] at hc;obtain ⟨rfl,rfl,rfl⟩:=hc;have h1:=hb rfl;refine ⟨T,x,rfl,rfl,?_,(m1.net x).1,(m1.net x).2⟩;rw [Ct h.t.set r1];simp; omega
  ·cases hc
 ·intro kf d a' o h1 hc;have h1:(a,kf)∈[(3,kfK,kfF)]:=h1;have hc:(a,d,a',o)∈[(3,13,11,14)]:=hc;simp only [List.mem_cons,List.not_mem_nil,or_false,Prod.mk.injEq] at h1 hc;obtain ⟨rfl,rfl⟩:=h1;obtain ⟨_,rfl,rfl,rfl⟩:=hc;exact ⟨_,_,_,_,rfl,rfl,rfl,rfl,h.chg JL hx hb hk⟩
open Ev in
theorem ZkK {k:Nat} (hk:k<=40) {T:Zs} (h:LC k T):Zdv (cB T) tbE:=by
 refine ⟨rfl,?_,?_,?_,?_,?_,?_,?_,?_,?_,?_,?_,?_,Ziq⟩
 all_goals intro a
 ·intro _ _ h; cases h
 ·intro _ _ _ h; cases h
 ·intro _ h; cases h
 ·intro c hc;have hc:(a,c)∈[(2,2)]:=hc;simp only [List.mem_cons,List.not_mem_nil,or_false,Prod.mk.injEq] at hc;obtain ⟨rfl,rfl⟩:=hc;exact ⟨_,rfl,rfl,(h.out JL hk).sm (by omega)⟩
 ·intro h; cases h
 ·intro h; cases h
 ·intro h; cases h
 ·intro h; cases h
 ·intro _ h; cases h
 ·intro _ h; cases h
 ·intro _ _ h; cases h
 ·intro _ _ _ _ h; cases h
end
namespace Ev
open Go Go.Proofs
theorem ZfM:Bool.and (CE pU0) (Qe prog B0 M0 1000000 200 pU0)=true:=by decide +kernel
end Ev
namespace Ev
open Go Go.Proofs
section
variable {S S':Sig} (hx:S'.x=S.x) (hy:S'.y=S.y) (ha:S'.arg=S.arg) (hm:∀ t F w v,S.Q4 t F w v->S'.Q4 t F w v) (ho:∀ t F w o,S.Xg t F w o->S'.Xg t F w o) {r:Rho}
include hx hy ha hm
mutual
theorem VR.sig:∀ {v:Zb} {u:Value},@VR S r v u->@VR S' r v u:=fun {v u} h=>by
 cases h with
 | bool b=>exact @VR.bool S' r b
 | int k n=>exact @VR.int S' r k n
 | flt k b=>exact @VR.flt S' r k b
 | Z2 k a b=>exact @VR.Z2 S' r k a b
 | str l=>exact @VR.str S' r l
 | Zo=>exact @VR.Zo S' r
 | ptr h=>exact @VR.ptr S' r _ _ _ h
 | Za=>exact @VR.Za S' r
 | Z4 a c=>exact @VR.Z4 S' r a c
 | slice h hn hc hu=>exact @VR.slice S' r _ _ _ _ _ _ h hn hc hu
 | Zk=>exact @VR.Zk S' r
 | map h=>exact @VR.map S' r _ _ h
 | func f ha' hb=>exact @VR.func S' r f _ _ _ _ (VRs.sig ha') (VRs.sig hb)
 | ZJ=>exact @VR.ZJ S' r
 | nilIface=>exact @VR.nilIface S' r
 | iface t h=>exact @VR.iface S' r t _ _ (VR.sig h)
 | agg h=>exact @VR.agg S' r _ _ (VRs.sig h)
 | tuple h=>exact @VR.tuple S' r _ _ (VRs.sig h)
 | sint k h=>exact @VR.sint S' r k _ _ _ _ (by rw [hx,hy]; exact h)
 | raw h=>exact @VR.raw S' r _ _ (by rw [ha]; exact h)
 | gho h hg hu hm'=>exact @VR.gho S' r _ _ _ _ _ h hg hu (hm _ _ _ _ hm')
theorem VRs.sig:∀ {l:List Zb} {l':List Value},@VRs S r l l'->@VRs S' r l l':=fun {l l'} h=>by
 cases h with
 | nil=>exact @VRs.nil S' r
 | cons h t=>exact @VRs.cons S' r _ _ _ _ (VR.sig h) (VRs.sig t)
end
theorem ERs.sig {l:List Entry} {l':List MapEntry} (h:@ERs S r l l'):@ERs S' r l l':=by
 induction h with
 | nil=>exact @ERs.nil S' r
 | cons h _ ih=>exact @ERs.cons S' r _ _ _ _ ⟨VR.sig hx hy ha hm h.1,VR.sig hx hy ha hm h.2.1,h.2.2⟩ ih
include ho in
theorem BR.sig {b:Zd} {x:RB} {o:Obj} (h:@BR S r b x o):@BR S' r b x o:=by
 cases b with
 | cells cs e opn =>
  obtain ⟨h0,vs,rest,t,fr,h1,h2,h3⟩:=h;exact ⟨h0,vs,rest,t,fr,h1,VRs.sig hx hy ha hm h2,h3⟩
 | map es c =>
  obtain ⟨l,h1,h2⟩:=h;exact ⟨l,h1,ERs.sig hx hy ha hm h2⟩
 | mapIter m since seen st =>
  cases m with
  | none=>exact h
  | some m=>exact h
 | opq i t =>
  obtain ⟨y,g,h1,h2,h3⟩:=h;exact ⟨y,g,h1,h2,ho _ _ _ _ h3⟩
include ho in
theorem Kn.sig {s:St} {T:Nat->Prop} {w:World} {L:List Zb} {U:List Value} (h:Kn S s T w L U):Kn S' s T w L U:=by
 obtain ⟨r,⟨⟨h1,h2⟩,h3,h4,h5⟩,h6,h7⟩:=h;refine ⟨r,@Rel.mk S' _ _ _ (@RelB.mk S' _ _ _ (fun i b x hb hx' => ?_) h2) h3 h4 h5,VRs.sig hx hy ha hm h6,h7⟩;obtain ⟨o,k1,k2⟩:=h1 i b x hb hx';exact ⟨o,k1,BR.sig hx hy ha hm ho k2⟩
end
end Ev
namespace Ev
open Go Go.Proofs Go.RowKit
def M0s (t:Nat):Mn:=match t with
 | 0 => .nz
 | _ => .none
noncomputable abbrev S0:Sig:=ZdB M0s rfl 0 0 (by decide) (by decide)
section
variable {S:Sig} {r:Rho} {a:Zb} {u:Value} {l:List Zb} {m:List Value}
theorem vn:@VRs S r [] []:=@VRs.nil S r
theorem vc (h:@VR S r a u) (t:@VRs S r l m):@VRs S r (a::l) (u::m):=@VRs.cons S r _ _ _ _ h t
theorem vi {k:IntKind} {n:Int}:@VR S r (.int k n) (.int k n):=@VR.int S r k n
theorem vs {l:List UInt8}:@VR S r (.str l) (.string ⟨⟨l⟩⟩):=@VR.str S r l
theorem vb {b:Bool}:@VR S r (.bool b) (.bool b):=@VR.bool S r b
theorem vh (h:@VRs S r (a::l) (u::m)):@VR S r a u:=((@VE S _ _ _ _ _).1 h).1
theorem vt (h:@VRs S r (a::l) (u::m)):@VRs S r l m:=((@VE S _ _ _ _ _).1 h).2
end
section
variable {S:Sig} {s:St} {T:Nat->Prop} {w:World} {L:List Zb} {U:List Value} {u:Value}
theorem Kn.ptr {i o:Nat} (h:Kn S s T w (.ptr i o::L) (u::U)):∃ b,u = .pointer (some ⟨b,o,none⟩):=by
 obtain ⟨r,_,hv,_⟩:=h;obtain ⟨hx,_⟩:=(@VE S _ _ _ _ _).1 hv;clear hv;cases hx;exact ⟨_,rfl⟩
theorem Kn.rep {a b:Int} (h:Kn S s T w (.agg [.int .i64 a,.int .i64 b,.str []]::L) (u::U)):u = .agg #[.int .i64 a,.int .i64 b,.string ⟨#[]⟩]:=by
 obtain ⟨r,_,hv,_⟩:=h;obtain ⟨hx,_⟩:=(@VE S _ _ _ _ _).1 hv;clear hv;cases hx with
 | agg h=>cases h with
  | cons h1 h=>cases h with
   | cons h2 h=>cases h with
    | cons h3 h=>cases h; cases h1; cases h2; cases h3; rfl
theorem Kn.entry {a b c:Int} {n t:List UInt8} {i m:Nat} (h:Kn S s T w (.agg [.int .i64 a,.int .i64 b,.int .i64 c,.str n,.str t,.slice i 0 m none,.Za]::L) (u::U)) :
  ∃ A cap,u = .agg #[.int .i64 a,.int .i64 b,.int .i64 c,.string ⟨⟨n⟩⟩,.string ⟨⟨t⟩⟩,.slice A m cap,.slice none 0 0]:=by
 obtain ⟨r,_,hv,_⟩:=h;obtain ⟨hx,_⟩:=(@VE S _ _ _ _ _).1 hv;clear hv;cases hx with
 | agg h=>cases h with
  | cons h1 h=>cases h with
   | cons h2 h=>cases h with
    | cons h3 h=>cases h with
     | cons h4 h=>cases h with
      | cons h5 h=>cases h with
       | cons h6 h=>cases h with
        | cons h7 h=>cases h; cases h1; cases h2; cases h3; cases h4; cases h5; cases h6; cases h7; exact ⟨_,_,rfl⟩
end
abbrev TT (w:World):Nat->Prop:=fun k=>w.heap.size<=k
theorem Kn.low {S:Sig} {s:St} {T:Nat->Prop} {w0 w w':World} {L:List Zb} {U:List Value} (h:Kn S s (fun k=>T k\/w.heap.size<=k) w' L U) (hT:∀ k,T k->w0.heap.size<=k) (hw:w0.heap.size<=w.heap.size):Kn S s (TT w0) w' L U :=
 h.mono fun k hk _=>by
  rcases hk with hk | hk
  ·exact hT k hk
  ·show w0.heap.size<=k;omega
def Sl (w0 w2:World) (g ch:Value) (c q:Int) (R:Value->World->Prop):Prop :=
 ∃ P1 P2:Value->World->Prop,
  Calls prog 16 #[ch] w2 (fun e w'=>∃ u,e = .returned u/\P1 u w') /\
  (∀ u w',P1 u w'->Calls prog 11 #[u,.int .i64 c,.int .i64 q] w' fun e w'=>∃ u,e = .returned u/\P2 u w') /\
  (∀ u w',P2 u w'->Calls prog 10 #[g,u] w' fun e w'=>∃ u,e = .returned u/\R u w')
theorem Kn.tup {S:Sig} {s:St} {T:Nat->Prop} {w:World} {L:List Zb} {U:List Value} {u:Value} {i t:Nat} {M:Nat->Mn} {A:Zs} (h:Kn S s T w (.tuple [.gho i t,.bool true]::L) (u::U)) (hM:S.Q4=QK M) (hA:M t = .set A) :
  ∃ sv,u = .tuple #[sv,.bool true]/\Sm A/\Zp T w sv (Zi A):=by
 have h':=h;obtain ⟨r,_,hv,_⟩:=h';have hx:=vh hv
 have key:∃ sv,u = .tuple #[sv,.bool true]:=by
  cases hx with
  | tuple hx=>cases hx with
   | cons h1 hx=>cases hx with
    | cons h2 hx=>cases hx; cases h2; exact ⟨_,rfl⟩
 obtain ⟨sv,rfl⟩:=key
 have hk:Kn S s T w [.gho i t] [sv]:=h.pick fun r h=>by
  have hx:=vh h;cases hx with
  | tuple hx=>exact vc (vh hx) vn
 obtain ⟨h1,h2⟩:=hk.set hM (fun r h=>vh h) hA;exact ⟨sv,rfl,h1,h2⟩
theorem Kn.Vu {S:Sig} {s:St} {T T':Nat->Prop} {w w':World} {L:List Zb} {U:List Value} (h:Kn S s T w L U) (hc:Chg T' w w') (hd:∀ k,T k->¬ T' k):Kn S s T w' L U:=by
 obtain ⟨r,⟨⟨h1,h2⟩,h3,h4,h5⟩,h6,h7⟩:=h;refine ⟨r,@Rel.mk S _ _ _ (@RelB.mk S _ _ _ (fun i b x hb hx => ?_) h2) h3 h4 (fun i x g hx hg => ?_),h6,h7⟩
 ·obtain ⟨o,k1,k2⟩:=h1 i b x hb hx;exact ⟨o,hc.heap k1 (hd _ (h7 _ (.inl ⟨i,b,x,hb,hx,rfl⟩))),k2⟩
 ·obtain ⟨k1,k2⟩:=h5 i x g hx hg;have hs:=hc.size;refine ⟨Nat.le_trans k1 hs,fun k hk hl=>⟨?_,(k2 k hk hl).2⟩⟩;rw [hc.block k (by omega) (hd k (h7 k (.inr ⟨i,x,g,hx,hg,hk,hl⟩)))];exact (k2 k hk hl).1
end Ev
namespace Ev
open Go Go.Proofs
theorem zS [Sig]:∀ x∈RL,Qc prog x.1 x.2:=by
 intro x hx;simp only [RL,List.mem_cons,List.not_mem_nil,or_false] at hx;subst hx;refine uW fun e he => ?_;simp only [List.mem_cons,List.not_mem_nil,or_false] at he;subst he;have h:=ZfM;rw [Bool.and_eq_true] at h;exact ⟨rfl,h.1,Qk y5 (fun _ _=>rfl) Qu h.2⟩
theorem Zir [Sig]:Xc prog BRd:=TN fun x hx=>by
 rcases List.mem_append.1 hx with h | h
 ·exact D5 x h
 ·exact zS x h
theorem ve [Sig] {M:Nat->Mn} (hM:Sig.Q4=QK M) (hO:Sig.Xg=Ks M) {t:Tb} (ok:Zdv M t):Xc prog (BG t):=TN fun x hx=>by
 rcases List.mem_append.1 hx with h | h
 ·exact D5 x h
 ·rcases List.mem_append.1 h with h | h
  ·exact zS x h
  ·exact ZkD hM hO ok x h
end Ev
namespace Ev
open Go Go.Proofs
theorem Ux [Sig] (h:Zio=true):∃ s1 ct s2 s3 b1 s4 s5,
  cR 9 [] ⟨.lf,0⟩ = .ok (.ptr 3 0) s1/\cR 13 [] s1 = .ok ct s2/\cR 12 [ZdC,ct] s2 = .ok eT1 s3 /\
  cR 11 [eT1,vI 0,vI 1] s3 = .ok b1 s4/\cR 10 [.ptr 3 0,b1] s4 = .ok Uw s5/\KP V2 (.ptr 3 0) s5=true:=by
 unfold Zio at h
 generalize cR=c at h ⊢
 obtain ⟨g,s1,k1,h⟩:=Jc h;obtain ⟨e1,h⟩:=Jg h;have e1:=QO _ _ e1;subst e1;obtain ⟨ct,s2,k2,h⟩:=Jc h;obtain ⟨g,s3,k3,h⟩:=Jc h;obtain ⟨e1,h⟩:=Jg h;have e1:=QO _ _ e1;subst e1;obtain ⟨b1,s4,k4,h⟩:=Jc h;obtain ⟨g,s5,k5,h⟩:=Jc h;obtain ⟨e1,h⟩:=Jg h;have e1:=QO _ _ e1;subst e1;exact ⟨s1,ct,s2,s3,b1,s4,s5,k1,k2,k3,k4,k5,h⟩
theorem Uy [Sig] (h:preB=true):∃ s0 b s1 s2,cR 14 [txN,txV] V2.S = .ok eT2 s0/\cR 11 [eT2,vI 0,vI 2] s0 = .ok b s1/\cR 10 [.ptr 0 0,b] s1 = .ok Uw s2/\KP V4 (.ptr 0 0) s2=true:=by
 unfold preB at h
 generalize cR=c at h ⊢
 obtain ⟨g,s0,k0,h⟩:=Jc h;obtain ⟨e1,h⟩:=Jg h;have e1:=QO _ _ e1;subst e1;obtain ⟨b,s1,k1,h⟩:=Jc h;obtain ⟨g,s2,k2,h⟩:=Jc h;obtain ⟨e1,h⟩:=Jg h;have e1:=QO _ _ e1;subst e1;exact ⟨s0,b,s1,s2,k0,k1,k2,h⟩
theorem Zbl [Sig] {t:Tb} {V:Vd} {b:Bool} {rep:Zb} (h:Sk t V b rep=true):∃ e s1 y s2 s3,cG t 16 [.slice 36 0 1 none] (stU b) = .ok e s1 /\
  cG t 11 [e,vI 0,.sint .i64 (.ofNat 3) (.ofNat 1) (.ofNat 0)] s1 = .ok y s2/\cG t 10 [.ptr 0 0,y] s2 = .ok rep s3/\KP V (.ptr 0 0) s3=true:=by
 obtain ⟨e,s1,k1,h⟩:=Jc h;obtain ⟨y,s2,k2,h⟩:=Jc h;obtain ⟨g,s3,k3,h⟩:=Jc h;obtain ⟨e1,hv⟩:=Jg h;rw [QO _ _ e1] at k3;exact ⟨e,s1,y,s2,s3,k1,k2,k3,hv⟩
theorem ZdF {v:Zb} {t:Nat} (h:isSet v t=true):∃ i,v = .tuple [.gho i t,.bool true]:=by
 unfold isSet at h;split at h
 ·exact ⟨_,by rw [Nat.eq_of_beq_eq_true h]⟩
 ·cases h
theorem Uz (h:Zhq=true):∃ i s,cG tbE 19 [.ptr 0 0,txN] VA.S = .ok (.tuple [.gho i 2,.bool true]) s:=by
 obtain ⟨g,s1,k1,h⟩:=Jc h;obtain ⟨i1,rfl⟩:=ZdF h;exact ⟨i1,s1,k1⟩
end Ev
namespace Ev
open Go Go.Proofs Go.RowKit
def KnH (S:Sig) (s:St) (H T:Nat->Prop) (w:World) (L:List Zb) (U:List Value):Prop :=
 ∃ r,@Rel S r s w/\@VRs S r L U/\(∀ k,Hit r s k->H k)/\∀ k,JA r k->T k
section
variable {S S':Sig} {s s':St} {H T H' T':Nat->Prop} {w w':World} {L L':List Zb} {U U':List Value} {u:Value}
theorem Kn.toH (h:Kn S s T w L U):KnH S s T T w L U:=by
 obtain ⟨r,h1,h2,h3⟩:=h;exact ⟨r,h1,h2,fun k hk=>h3 k (.inl hk),fun k hk=>h3 k (.inr hk)⟩
theorem KnH.to (h:KnH S s H T w L U):Kn S s (fun k=>H k\/T k) w L U:=by
 obtain ⟨r,h1,h2,h3,h4⟩:=h;exact ⟨r,h1,h2,fun k hk=>hk.imp (h3 k) (h4 k)⟩
theorem KnH.mono (h:KnH S s H T w L U) (hH:∀ k,H k->k<w.heap.size->H' k) (hT:∀ k,T k->k<w.heap.size->T' k):KnH S s H' T' w L U:=by
 obtain ⟨r,h1,h2,h3,h4⟩:=h;refine ⟨r,h1,h2,fun k hk=>hH k (h3 k hk) (@Rel.lt S _ _ _ h1 _ hk),fun k hk=>hT k (h4 k hk) ?_⟩;obtain ⟨i,x,g,h5,h6,h7,h8⟩:=hk;have:=(@Rel.safe S _ _ _ h1 i x g h5 h6).1;omega
theorem KnH.pick (h:KnH S s H T w L U) (hL:∀ r,@VRs S r L U->@VRs S r L' U'):KnH S s H T w L' U':=by
 obtain ⟨r,h1,h2,h3⟩:=h;exact ⟨r,h1,hL r h2,h3⟩
theorem KnH.Zf {C:Nat->Prop} (h:KnH S s H T w L U) (hc:Chg C w w') (hH:∀ k,H k->¬ C k) (hT:∀ k,T k->¬ C k):KnH S s H T w' L U:=by
 obtain ⟨r,⟨⟨h1,h2⟩,h3,h4,h5⟩,h6,h7,h8⟩:=h;refine ⟨r,@Rel.mk S _ _ _ (@RelB.mk S _ _ _ (fun i b x hb hx => ?_) h2) h3 h4 (fun i x g hx hg => ?_),h6,h7,h8⟩
 ·obtain ⟨o,k1,k2⟩:=h1 i b x hb hx;exact ⟨o,hc.heap k1 (hH _ (h7 _ ⟨i,b,x,hb,hx,rfl⟩)),k2⟩
 ·obtain ⟨k1,k2⟩:=h5 i x g hx hg;have hs:=hc.size;refine ⟨Nat.le_trans k1 hs,fun k hk hl=>⟨?_,(k2 k hk hl).2⟩⟩;rw [hc.block k (by omega) (hT k (h8 k ⟨i,x,g,hx,hg,hk,hl⟩))];exact (k2 k hk hl).1
theorem KnH.sig (hx:S'.x=S.x) (hy:S'.y=S.y) (ha:S'.arg=S.arg) (hm:∀ t F w v,S.Q4 t F w v->S'.Q4 t F w v) (ho:∀ t F w o,S.Xg t F w o->S'.Xg t F w o) (h:KnH S s H T w L U):KnH S' s H T w L U:=by
 obtain ⟨r,⟨⟨h1,h2⟩,h3,h4,h5⟩,h6,h7⟩:=h;refine ⟨r,@Rel.mk S' _ _ _ (@RelB.mk S' _ _ _ (fun i b x hb hx' => ?_) h2) h3 h4 h5,VRs.sig hx hy ha hm h6,h7⟩;obtain ⟨o,k1,k2⟩:=h1 i b x hb hx';exact ⟨o,k1,BR.sig hx hy ha hm ho k2⟩
theorem KnH.call {B:YG} {f:FuncId} {args:List Zb} {us:List Value} {v:Zb} (h:KnH S s H T w L U) (hB:@Xc S prog B) (az:∀ f id,B.reg f id=none) (hcall:Hg prog B ME 1000000 200 f args s = .ok v s')
  (he:∀ us W,(callFunc f us).run prog W = .ok (.enter f us) W) (hargs:∀ r,@VRs S r L U->@VRs S r args us) :
  Calls prog f ⟨us⟩ w fun e w'=>∃ u,e = .returned u/\KnH S s' (fun k=>H k\/w.heap.size<=k) (fun k=>T k\/w.heap.size<=k) w' (v::L) (u::U)/\Chg H w w':=by
 obtain ⟨r,h1,h2,h3,h4⟩:=h;have hc:=@Wk S _ _ hB az Qu ME 1000000 200 f args s v s' hcall r w us h1 (hargs r h2);rcases hc with ⟨u,w',h5,_⟩ | ⟨_,h5⟩
 ·rw [he] at h5;cases h5
 ·refine h5.mono ?_;rintro e w' ⟨u,rfl,q,hx,hu⟩;refine ⟨u,rfl,⟨q,@Ext.rel S _ _ _ _ _ _ hx,@VRs.cons S _ _ _ _ _ hu (@VRs.mono S _ _ (@Ext.le S _ _ _ _ _ _ hx) _ _ h2),fun k hk => ?_,fun k hk => ?_⟩,?_⟩
  ·exact (@Ext.XM S _ _ _ _ _ _ hx k hk).imp (h3 k) id
  ·exact (@Ext.Wa S _ _ _ _ _ _ hx k hk).imp (h4 k) id
  ·exact ⟨@Ext.os S _ _ _ _ _ _ hx,@Ext.tape S _ _ _ _ _ _ hx,@Ext.output S _ _ _ _ _ _ hx,@Ext.size S _ _ _ _ _ _ hx,fun k hk hn=>@Ext.frame S _ _ _ _ _ _ hx k hk fun hh=>hn (h3 k hh)⟩
theorem KnH.gho {t:Nat} {F:Nat->Prop} (h:KnH S s H T w L U) (h1:u.oneCell'=true) (h2:∀ b,u ≠ .bool b) (hF:∀ k,F k->¬ H k) (hm:S.Q4 t F w u):KnH S s.Vz H (fun k=>T k\/F k) w (.gho s.next t::L) (u::U):=by
 obtain ⟨r,k1,k2,k3,k4⟩:=h;obtain ⟨q,q1,q2,q3,q4,q5⟩:=@Hs S _ _ _ k1 u F t h1 h2 (fun k hk hh=>hF k hk (k3 k hh)) hm;refine ⟨q,q1,@VRs.cons S _ _ _ _ _ q3 (@VRs.mono S _ _ q2 _ _ k2),fun k hk=>k3 k (q4 k hk),fun k hk => ?_⟩;exact (q5 k hk).imp (k4 k) id
theorem KnH.blk {k e:Nat} {cs:List Zb} {vs:List Value} {t:TypeId} (h:KnH S s H T w L U) (hcs:∀ r,@VRs S r L U->@VRs S r cs vs) (ho:w.heap[k]? = some (.cells ⟨vs⟩ t (0,0))) (hH:¬ H k) (hT:¬ T k) (n:Nat) (he:n*e=vs.length) :
  KnH S (s.new (.cells cs e false)) (fun j=>H j\/j=k) T w (.slice s.next 0 n none::L) (.slice (some ⟨k,0,none⟩) n n::U):=by
 obtain ⟨r,k1,k2,k3,k4⟩:=h;obtain ⟨q,q1,q2,q3,q4,q5⟩:=@Ht S _ _ _ k1 k e cs vs t ho (hcs r k2) (fun hh=>hH (k3 k hh)) (fun hh=>hT (k4 k hh));refine ⟨q,q1,@VRs.cons S _ _ _ _ _ (@VR.slice S q s.next 0 n none _ n q3 (Nat.le_refl _) (fun _ h=>by cases h) (fun _=>by show 0+n*e=vs.length; omega)) (@VRs.mono S _ _ q2 _ _ k2),fun j hj => ?_,fun j hj=>k4 j (q5 j hj)⟩;exact (q4 j hj).imp (k3 j) id
theorem KnH.view {V:Vd} {v:Zb} (h:KnH S s H T w L U) (hv:∀ r,@VRs S r L U->@VR S r v u) (dU:KP V v s=true) (hz:V.z=true->S'.x=0) (hd:V.z=false->S'.x=S.x+V.d) (hk:S'.y=V.k)
  (jG:∀ a b,(a,b)∈V.tg->∀ F w v,S.Q4 a F w v->S'.Q4 b F w v) (hte:∀ b∈V.te,∀ w,S'.Q4 b (fun _=>False) w (.slice none 0 0)) (hto:∀ a b,(a,b)∈V.tg->∀ F w o,S.Xg a F w o->S'.Xg b F w o) (kR:∀ b∈V.tm,∀ w c,S'.Xg b (fun _=>False) w (.map #[] c)):KnH S' V.S H T w [.ptr 0 0] [u]:=by
 obtain ⟨r,k1,k2,k3,k4⟩:=h;obtain ⟨c1,dU⟩:=ZF (show sel _ (sel _ (sel _ _ false) false) false=true from dU);obtain ⟨c2,dU⟩:=ZF dU;obtain ⟨c3,c4⟩:=ZF dU;obtain ⟨o1,o2,o3,o4⟩:=Cw (S:=S) (S':=S') k1 rfl rfl c1 c2 c3 hz hd hk (fun a b h=>jG a b (Yo h)) (fun b h=>hte b (Wq.1 h) w) (fun a b h=>hto a b (Yo h)) (fun b h=>kR b (Wq.1 h) w);exact ⟨_,o2,@VRs.cons S' _ _ _ _ _ (Sd o1 _ _ _ c4 (hv r k2)) (@VRs.nil S' _),fun k hk=>k3 k (o3 k hk),fun k hk=>k4 k (o4 k hk)⟩
theorem KnH.rep {a b:Int} (h:KnH S s H T w (.agg [.int .i64 a,.int .i64 b,.str []]::L) (u::U)):u = .agg #[.int .i64 a,.int .i64 b,.string ⟨#[]⟩]:=h.to.rep
end
end Ev
namespace Ev
open Go Go.Proofs
theorem ZdG:Sk (tbU true) VU false Uw=true:=by decide +kernel
end Ev
namespace Ev
open Go Go.Proofs
theorem ZdH:Sk (tbU false) VU true Uw=true:=by decide +kernel
end Ev
namespace Ev
open Go Go.Proofs
theorem ZdI:Sk tbR VA true ZlZ=true:=by decide +kernel
end Ev
namespace Ev
open Go Go.Proofs
theorem Zbm:Zhq=true:=by decide +kernel
end Ev
namespace Ev
open Go Go.Proofs Go.RowKit
noncomputable abbrev S1 (T:Zs) (x y:Int) (hx:0<=x/\x<=1000) (hy:0<=y/\y<=1000):Sig:=ZdB (cB T) rfl x y hx hy
noncomputable abbrev S2 (T:Zs) (b:Bool) (r:List Vl) (x y:Int) (hx:0<=x/\x<=1000) (hy:0<=y/\y<=1000):Sig:=ZdB (cM T b r) rfl x y hx hy
theorem KnH.lift {S:Sig} {s:St} {H T H1 T1:Nat->Prop} {w w':World} {L:List Zb} {U:List Value} (h:KnH S s (fun k=>H k\/w.heap.size<=k) (fun k=>T k\/w.heap.size<=k) w' L U) (hH:∀ k,H k->H1 k) (hT:∀ k,T k->T1 k) (hH1:∀ k,w.heap.size<=k->H1 k) (hT1:∀ k,w.heap.size<=k->T1 k):KnH S s H1 T1 w' L U :=
 h.mono (fun k hk _=>hk.elim (hH k) (hH1 k)) fun k hk _=>hk.elim (hT k) (hT1 k)
theorem Hz {S S':Sig} {t:Tb} (hB:@Xc S prog (BG t)) {V:Vd} {rep:Zb} {rem:Bool} {g ch:Value} {w1 w2:World} {H T H1 T1:Nat->Prop} {row:Value}
  (dU:Sk t V rem rep=true) (K:KnH S (stU rem) H T w2 [.slice 36 0 1 none,.gho 35 8,.ptr 0 0] [ch,row,g]) (hH:∀ k,H k->H1 k) (hT:∀ k,T k->T1 k) (hH1:∀ k,w2.heap.size<=k->H1 k) (hT1:∀ k,w2.heap.size<=k->T1 k) (hc:Chg (fun _=>False) w1 w2)
  {q:Int} (hq:q=3+S.x) (hz:V.z=false) (hd:S'.x=S.x+V.d) (hk:S'.y=V.k)
  (jG:∀ a b,(a,b)∈V.tg->(∀ F w v,S.Q4 a F w v->S'.Q4 b F w v)/\(∀ F w o,S.Xg a F w o->S'.Xg b F w o)) (hte:V.te=[]) (kR:V.tm=[]) {ra rb:Int} (hrep:rep = .agg [.int .i64 ra,.int .i64 rb,.str []]) :
  Sl w1 w2 g ch 0 q fun v w'=>v = .agg #[.int .i64 ra,.int .i64 rb,.string ⟨#[]⟩]/\KnH S' V.S H1 T1 w' [.ptr 0 0] [g]/\Chg H1 w1 w':=by
 obtain ⟨e,s1,y,s2,s3,c1,c2,c3,hv⟩:=@Zbl S _ _ _ _ dU;subst hrep;refine ⟨fun v w'=>KnH S s1 H1 T1 w' [e,.ptr 0 0] [v,g]/\Chg H1 w1 w'/\w2.heap.size<=w'.heap.size,fun v w'=>KnH S s2 H1 T1 w' [y,.ptr 0 0] [v,g]/\Chg H1 w1 w'/\w2.heap.size<=w'.heap.size,?_,?_,?_⟩
 ·refine (K.call hB (fun _ _=>rfl) c1 (fun us W=>call16 us W) (us:=[ch]) (fun r h=>vc (vh h) vn)).mono ?_;rintro _ w' ⟨v,rfl,K',h'⟩;exact ⟨v,rfl,(K'.lift hH hT hH1 hT1).pick fun r h=>vc (vh h) (vc (vh (vt (vt (vt h)))) vn),(((Chg.refl H1 w1).trans hc fun _ _ h=>h.elim).trans h' fun i hi hk=>hH i hk),h'.size⟩
 ·rintro v w' ⟨K',h',hs⟩;refine (K'.call hB (fun _ _=>rfl) c2 (fun us W=>call11 us W) (us:=[v,.int .i64 0,.int .i64 q]) (fun r h=>vc (vh h) (vc vi (vc (@VR.sint S r .i64 (.ofNat 3) (.ofNat 1) (.ofNat 0) q (by rw [hq]; show 3+S.x=3+1*S.x+0*S.y; omega)) vn)))).mono ?_;rintro _ w3 ⟨v2,rfl,K2,h2⟩;exact ⟨v2,rfl,(K2.lift (fun _ h=>h) (fun _ h=>h) (fun k hk=>hH1 k (Nat.le_trans hs hk)) fun k hk=>hT1 k (Nat.le_trans hs hk)).pick fun r h=>vc (vh h) (vc (vh (vt (vt h))) vn),h'.trans h2 fun i hi hk=>hk,Nat.le_trans hs h2.size⟩
 ·rintro v w' ⟨K',h',hs⟩;refine (K'.call hB (fun _ _=>rfl) c3 (fun us W=>call10 us W) (us:=[g,v]) (fun r h=>vc (vh (vt h)) (vc (vh h) vn))).mono ?_;rintro _ w3 ⟨v2,rfl,K2,h2⟩;have K3:=K2.lift (fun _ h=>h) (fun _ h=>h) (fun k hk=>hH1 k (Nat.le_trans hs hk)) fun k hk=>hT1 k (Nat.le_trans hs hk);exact ⟨v2,rfl,K3.rep,K3.view (fun r h=>vh (vt (vt h))) hv (fun h=>by rw [hz] at h; cases h) (fun _=>hd) hk (fun a b h=>(jG a b h).1) (fun b hb=>by rw [hte] at hb; cases hb) (fun a b h=>(jG a b h).2) (fun b hb=>by rw [kR] at hb; cases hb),h'.trans h2 fun i hi hk=>hk⟩
def PH:ByteArray:=⟨#[117]⟩
theorem Zis {S:Sig} {r:Rho}:@VR S r ZdC (.string PH):=@VR.str S r [117]
def qQ (n:Int):Value := .agg #[.int .i64 n,.int .i64 0,.string ⟨#[]⟩]
def WV (H Tf:Nat->Prop) (g:Value) (n:Nat) (T:Zs) (w':World):Prop :=
 ∃ hx hy,LC n T/\KnH (S1 T n 0 hx hy) VU.S H Tf w' [.ptr 0 0] [g]
def Ws (H Tf:Nat->Prop) (g:Value) (n:Nat) (T:Zs) (w':World):Prop :=
 ∃ y hx hy,LC n T/\KnH (S1 T n y hx hy) VA.S H Tf w' [.ptr 0 0] [g]
def ZkL (H Tf:Nat->Prop) (g:Value) (k:Nat) (T:Zs) (rem:Bool) (row:List Vl) (v:Value) (w':World):Prop :=
 v=qQ 0/\(rem=true->1<=nf T row)/\WV H Tf g (k+1) (Ql row (sd !rem) T) w'\/v=qQ 25/\Ws H Tf g (k+1) T w'
theorem Sl.mono {w0 w2:World} {g ch:Value} {c q:Int} {R R':Value->World->Prop} (h:Sl w0 w2 g ch c q R) (hR:∀ v w,R v w->R' v w):Sl w0 w2 g ch c q R':=by
 obtain ⟨P1,P2,p1,p2,p3⟩:=h;exact ⟨P1,P2,p1,p2,fun v w' h=>(p3 v w' h).mono fun e w'' ⟨v',e1,h1⟩=>⟨v',e1,hR _ _ h1⟩⟩
theorem ZkM {T:Zs} {k:Nat} {y:Int} {hx:0<=(k:Int)/\(k:Int)<=1000} {hy:0<=y/\y<=1000} {H Tf:Nat->Prop} {wr w1:World} {g:Value} {rb len:Nat} {row:List Vl} {rem:Bool}
  (hi:LC k T) (hk:k+1<=40) (K:KnH (S1 T k y hx hy) VA.S H Tf wr [.ptr 0 0] [g]) (hc:Chg (fun _=>False) wr w1) (hrow:Zm (fun b=>b=rb) w1 (.slice (some ⟨rb,0,none⟩) len len) row) (hrb:wr.heap.size<=rb) (hlt:rb<w1.heap.size)
  (eT:Zbk row) :
  Sl w1 (w1.alloc (.cells #[.string PH,.slice (some ⟨rb,0,none⟩) len len,.bool rem] 41)) g (.slice (some ⟨w1.heap.size,0,none⟩) 1 1) 0 (3+(k:Int)) fun v w' =>
   ZkL (fun j=>H j/\j<wr.heap.size\/w1.heap.size<=j) (fun j=>Tf j/\j<wr.heap.size\/j=rb\/w1.heap.size<=j) g k T rem row v w'/\Chg (fun j=>H j/\j<wr.heap.size) w1 w':=by
 have hx1:0<=(k:Int)+1/\(k:Int)+1<=1000:=by omega
 have hrr:=eT.right.1;have hsz1:=hc.size
 have ready:∀ b:Bool,KnH (S2 T b row k y hx hy) (stU rem) (fun j=>(H j/\j<wr.heap.size)\/j=w1.heap.size) (fun j=>(Tf j/\j<wr.heap.size)\/j=rb) (w1.alloc (.cells #[.string PH,.slice (some ⟨rb,0,none⟩) len len,.bool rem] 41))
   [.slice 36 0 1 none,.gho 35 8,.ptr 0 0] [.slice (some ⟨w1.heap.size,0,none⟩) 1 1,.slice (some ⟨rb,0,none⟩) len len,g]:=fun b=>by
  have Ka:KnH (S2 T b row k y hx hy) VA.S H Tf wr [.ptr 0 0] [g]:=KnH.sig (S:=S1 T k y hx hy) (S':=S2 T b row k y hx hy) rfl rfl rfl (Zl0 T b row) (ZkH T b row) K;have Kb:=(Ka.mono (H':=fun j=>H j/\j<wr.heap.size) (T':=fun j=>Tf j/\j<wr.heap.size) (fun j hj hl=>⟨hj,hl⟩) fun j hj hl=>⟨hj,hl⟩).Zf hc (fun _ _ h=>h) fun _ _ h=>h;have Kc:=Kb.gho (t:=8) (u := .slice (some ⟨rb,0,none⟩) len len) (F:=fun b=>b=rb) rfl (fun b h=>by cases h) (fun j hj hT=>by have:=hT.2; omega) ⟨hrr,hrow⟩;have Kd:=Kc.Zf ((Chg.refl (fun _=>False) w1).alloc (.cells #[.string PH,.slice (some ⟨rb,0,none⟩) len len,.bool rem] 41)) (fun _ _ h=>h) fun _ _ h=>h;exact Kd.blk (k:=w1.heap.size) (e:=3) (cs:=[ZdC,.gho 35 8,.bool rem]) (vs:=[.string PH,.slice (some ⟨rb,0,none⟩) len len,.bool rem]) (fun r h=>vc Zis (vc (vh h) (vc vb vn))) (heap_alloc_new w1 _) (fun h=>by have:=h.2; omega) (fun h=>by rcases h with h | h; have:=h.2; omega; omega) 1 rfl
 have esz:(w1.alloc (.cells #[.string PH,.slice (some ⟨rb,0,none⟩) len len,.bool rem] 41)).heap.size=w1.heap.size+1:=Array.size_push _;have hcw:Chg (fun _=>False) w1 (w1.alloc (.cells #[.string PH,.slice (some ⟨rb,0,none⟩) len len,.bool rem] 41)):=(Chg.refl _ w1).alloc _;have sH:∀ j,((H j/\j<wr.heap.size)\/j=w1.heap.size)->(H j/\j<wr.heap.size\/w1.heap.size<=j):=fun j hj=>hj.imp id fun h=>Nat.le_of_eq h.symm;have sT:∀ j,((Tf j/\j<wr.heap.size)\/j=rb)->(Tf j/\j<wr.heap.size\/j=rb\/w1.heap.size<=j):=fun j hj=>hj.imp id Or.inl;have zT:∀ j,(w1.alloc (.cells #[.string PH,.slice (some ⟨rb,0,none⟩) len len,.bool rem] 41)).heap.size<=j->(H j/\j<wr.heap.size\/w1.heap.size<=j):=fun j hj => .inr (by rw [esz] at hj; omega);have zU:∀ j,(w1.alloc (.cells #[.string PH,.slice (some ⟨rb,0,none⟩) len len,.bool rem] 41)).heap.size<=j->(Tf j/\j<wr.heap.size\/j=rb\/w1.heap.size<=j):=fun j hj => .inr (.inr (by rw [esz] at hj; omega));have fin:∀ w',Chg (fun j=>H j/\j<wr.heap.size\/w1.heap.size<=j) w1 w'->Chg (fun j=>H j/\j<wr.heap.size) w1 w':=fun w' h=>(Chg.refl _ w1).trans h fun i hi hk=>hk.elim id fun h=>absurd h (by omega)
 have done:∀ (b:Bool),(!rem)=b->(b=false->1<=nf T row)->Sk (tbU b) VU rem Uw=true ->
   Sl w1 (w1.alloc (.cells #[.string PH,.slice (some ⟨rb,0,none⟩) len len,.bool rem] 41)) g (.slice (some ⟨w1.heap.size,0,none⟩) 1 1) 0 (3+(k:Int)) fun v w' =>
    ZkL (fun j=>H j/\j<wr.heap.size\/w1.heap.size<=j) (fun j=>Tf j/\j<wr.heap.size\/j=rb\/w1.heap.size<=j) g k T rem row v w'/\Chg (fun j=>H j/\j<wr.heap.size) w1 w':=fun b hrb hb dU=>by
  have hB:=@ve (S2 T b row k y hx hy) (cM T b row) rfl rfl (tbU b) (ZkJ hk hi eT hb);have hinv:=hi.step JL eT hb
  refine (Hz (S':=S1 (Ql row (sd b) T) ((k:Int)+1) 0 hx1 (by decide)) hB dU (ready b) sH sT zT zU hcw (q:=3+(k:Int)) rfl rfl rfl rfl (fun a c hac=>by
   have hac:(a,c)∈[(9,1),(10,2),(11,3)]:=hac;simp only [List.mem_cons,List.not_mem_nil,or_false,Prod.mk.injEq] at hac
   rcases hac with ⟨rfl,rfl⟩ | ⟨rfl,rfl⟩ | ⟨rfl,rfl⟩ <;> exact ⟨fun _ _ _ h=>h,fun _ _ _ h=>h⟩) rfl rfl (ra:=0) (rb:=0) rfl).mono ?_
  rintro v w' ⟨e1,h2,h3⟩;refine ⟨.inl ⟨e1,fun hr=>hb (by rw [<- hrb,hr]; rfl),hx1,by decide,?_⟩,fin w' h3⟩;rw [hrb];exact ⟨hinv,h2⟩
 by_cases ja:rem=false
 ·subst ja;exact done true rfl (fun h=>by cases h) ZdG
 ·have ja:rem=true:=by simpa using ja
  subst ja;by_cases hth:1<=nf T row
  ·exact done false rfl (fun _=>hth) ZdH
  ·have hno:nf T row=0:=by
    have:0<=nf T row:=Um hi.pos row;omega
   have hB:=@ve (S2 T true row k y hx hy) (cM T true row) rfl rfl tbR (ZkI hk hi eT hno)
   refine (Hz (S':=S1 T ((k:Int)+1) 25 hx1 (by decide)) hB ZdI (ready true) sH sT zT zU hcw (q:=3+(k:Int)) rfl rfl rfl rfl (fun a c hac=>by
    have hac:(a,c)∈[(1,1),(2,2),(3,3)]:=hac;simp only [List.mem_cons,List.not_mem_nil,or_false,Prod.mk.injEq] at hac
    rcases hac with ⟨rfl,rfl⟩ | ⟨rfl,rfl⟩ | ⟨rfl,rfl⟩ <;> exact ⟨fun _ _ _ h=>h,fun _ _ _ h=>h⟩) rfl rfl (ra:=25) (rb:=0) rfl).mono ?_
   rintro v w' ⟨e1,h2,h3⟩;exact ⟨.inr ⟨e1,25,hx1,by decide,hi.mono (Nat.le_succ k),h2⟩,fin w' h3⟩
theorem WV.to {H T:Nat->Prop} {g:Value} {n:Nat} {Z:Zs} {w:World} (h:WV H T g n Z w):Ws H T g n Z w:=by
 obtain ⟨hx,hy,hi,K⟩:=h;exact ⟨0,hx,hy,hi,K⟩
theorem Zit {T:Zs} {k:Nat} {H Tf:Nat->Prop} {w:World} {g:Value} (hk:k<=40) (h:Ws H Tf g k T w) :
  Calls prog 19 #[g,.string ⟨#[118]⟩] w fun e w'=>∃ sv,e = .returned (.tuple #[sv,.bool true])/\Zp (fun _=>True) w' sv (Zi (cO T))/\Chg H w w':=by
 obtain ⟨y,hx,hy,hi,K⟩:=h;obtain ⟨i,s,c1⟩:=Uz Zbm;have hB:=@ve (S1 T k y hx hy) (cB T) rfl rfl tbE (ZkK hk hi);refine (K.call hB (fun _ _=>rfl) c1 (fun us W=>call19 us W) (us:=[g,.string ⟨⟨[118]⟩⟩]) (fun r h=>vc (vh h) (vc vs vn))).mono ?_;rintro _ w' ⟨u,rfl,K',h'⟩;obtain ⟨sv,rfl,hs1,hs2⟩:=K'.to.tup (M:=cB T) rfl (A:=cO T) rfl;exact ⟨sv,rfl,hs2.mono fun _ _ _=>trivial,h'⟩
end Ev
section
open Go.RowKit
def Wu (f:List Vl->Int):Zs->Int
 | []=>0
 | p::S=>p.2*f p.1+Wu f S
theorem Sn (f:List Vl->Int) (x:List Vl) (n:Int):∀ S:Zs,Wu f (Ql x n S)=Wu f S+n*f x
 | []=>by show n*f x+0=0+n*f x; omega
 | p::S=>by
  rw [Ql];split
  ·rw [Wu]; simp only; omega
  ·split
   ·rename_i e;split
    ·rename_i h;have h1:p.2*f p.1+n*f p.1=0:=by rw [<- Int.add_mul,h,Int.zero_mul]
     rw [Wu,e]; omega
    ·show (p.2+n)*f x+Wu f S=(p.2*f p.1+Wu f S)+n*f x;rw [<- e,Int.add_mul]; omega
   ·rw [Wu,Wu,Sn f x n S]; omega
def Bag (T:Zs) (rows:List (List Vl)):Prop:=∀ f,Wu f T=(rows.map f).sum
theorem Bag.nil:Bag [] []:=fun f=>rfl
theorem Bag.add {T:Zs} {rows:List (List Vl)} (h:Bag T rows) (x:List Vl):Bag (Ql x 1 T) (rows++[x]):=fun f=>by
 rw [Sn,h f,List.map_append,List.sum_append]; simp
theorem Bag.del {T:Zs} {a b:List (List Vl)} {x:List Vl} (h:Bag T (a++x::b)):Bag (Ql x (-1) T) (a++b):=fun f=>by
 rw [Sn,h f,List.map_append,List.map_append,List.sum_append,List.sum_append,List.map_cons,List.sum_cons]; omega
theorem EX (r:List Vl):∀ T:Zs,nf T r=Wu (fun q=>if q=r then 1 else 0) T
 | []=>rfl
 | p::T=>by
  rw [nf,Wu,EX r T];by_cases e:p.1=r <;> simp [e]
theorem HJ (r:List Vl):∀ l:List (List Vl),(l.map fun q=>if q=r then (1:Int) else 0).sum=(l.count r:Int)
 | []=>rfl
 | x::l=>by
  rw [List.map_cons,List.sum_cons,HJ r l,List.count_cons];by_cases e:x=r <;> simp [e] <;> omega
theorem Bag.cnt {T:Zs} {rows:List (List Vl)} (h:Bag T rows) (r:List Vl):nf T r=(rows.count r:Int):=by
 rw [EX,h,HJ]
theorem Bag.mem {T:Zs} {rows:List (List Vl)} (h:Bag T rows) (hz:ZP T) {r:List Vl}:r∈rows↔∃ p∈T,p.1=r:=by
 rw [<- List.count_pos_iff];have h1:=h.cnt r;constructor
 ·intro h2;by_cases h3:∃ p∈T,p.1=r
  ·exact h3
  ·have:=T2 fun p hp e=>h3 ⟨p,hp,e⟩;omega
 ·rintro ⟨p,hp,rfl⟩;have h2:=hz.Fi hp;have h3:=hz.net p hp;omega
theorem Bag.empty {T:Zs} {rows:List (List Vl)} (h:Bag T rows) (hz:ZP T):rows=[]↔T=[]:=by
 constructor
 ·intro e;subst e;refine List.eq_nil_iff_forall_not_mem.2 fun p hp => ?_;have:=(h.mem hz).2 ⟨p,hp,rfl⟩;cases this
 ·intro e;subst e;refine List.eq_nil_iff_forall_not_mem.2 fun r hr => ?_;obtain ⟨p,hp,_⟩:=(h.mem hz).1 hr;cases hp
theorem Pd (f:List Vl->Int) (g:List Vl->Bool):∀ T:Zs,Wu f (T.filter fun p=>g p.1)=Wu (fun r=>if g r then f r else 0) T
 | []=>rfl
 | p::T=>by
  rw [List.filter_cons,Wu];have ih:=Pd f g T;by_cases e:g p.1
  ·rw [if_pos e,Wu,ih,if_pos e]
  ·rw [if_neg e,ih,if_neg e]; omega
theorem Nl (f:List Vl->Int) (g:List Vl->Bool):∀ l:List (List Vl),((l.filter g).map f).sum=(l.map fun r=>if g r then f r else 0).sum
 | []=>rfl
 | x::l=>by
  rw [List.filter_cons,List.map_cons,List.sum_cons];have ih:=Nl f g l;by_cases e:g x
  ·rw [if_pos e,List.map_cons,List.sum_cons,ih,if_pos e]
  ·rw [if_neg e,ih,if_neg e]; omega
theorem Bag.grp {T:Zs} {rows:List (List Vl)} (h:Bag T rows) (ks:List Nat) (k:List UInt8):Bag (ZV ks T k) (rows.filter fun r=>decide (nmR ks r=k)):=fun f=>by
 unfold ZV;rw [Pd f (fun r=>decide (nmR ks r=k)),h,Nl]
theorem Pe:∀ T:Zs,Zq (Zi T)=Wu (fun _=>1) T
 | []=>rfl
 | p::T=>by
  have h1:Zq (Zi (p::T))=(ZB p).net+Zq (Zi T):=rfl;rw [h1,Wm,Wu,Pe T]; omega
theorem EY:∀ l:List (List Vl),(l.map fun _=>(1:Int)).sum=(l.length:Int)
 | []=>rfl
 | x::l=>by rw [List.map_cons,List.sum_cons,EY l,List.length_cons]; omega
theorem Bag.len {T:Zs} {rows:List (List Vl)} (h:Bag T rows):Zq (Zi T)=(rows.length:Int):=by rw [Pe,h,EY]
theorem Pf (c:Nat):∀ T:Zs,Qf c (Zi T)=Wu (fun r=>(r[c]?.getD ⟨0,0,[]⟩).n) T
 | []=>rfl
 | p::T=>by
  have h1:Qf c (Zi (p::T))=(ZB p).net*(p.1[c]?.getD ⟨0,0,[]⟩).n+Qf c (Zi T):=rfl;rw [h1,Wm,Wu,Pf c T]
def PJ (b:Int) (l:List Int):Int:=l.foldl (fun b s=>if s<b then s else b) b
def PK (b:Int) (l:List Int):Int:=l.foldl (fun b s=>if b<s then s else b) b
theorem Sp:∀ (l:List Int) (b:Int),PJ b l∈b::l/\∀ s∈b::l,PJ b l<=s
 | [],b=>⟨List.mem_cons_self,fun s hs=>by rw [List.mem_singleton.1 hs]; exact Int.le_refl b⟩
 | x::l,b=>by
  have e:PJ b (x::l)=PJ (if x<b then x else b) l:=rfl;rw [e];obtain ⟨h1,h2⟩:=Sp l (if x<b then x else b);have h0:=h2 _ List.mem_cons_self;refine ⟨?_,fun s hs => ?_⟩
  ·rcases List.mem_cons.1 h1 with h | h
   ·rw [h]; split
    ·exact List.mem_cons_of_mem _ List.mem_cons_self
    ·exact List.mem_cons_self
   ·exact List.mem_cons_of_mem _ (List.mem_cons_of_mem _ h)
  ·rcases List.mem_cons.1 hs with rfl | hs
   ·split at h0 <;> split <;> omega
   ·rcases List.mem_cons.1 hs with rfl | hs
    ·split at h0 <;> split <;> omega
    ·exact h2 s (List.mem_cons_of_mem _ hs)
theorem Sq:∀ (l:List Int) (b:Int),PK b l∈b::l/\∀ s∈b::l,s<=PK b l
 | [],b=>⟨List.mem_cons_self,fun s hs=>by rw [List.mem_singleton.1 hs]; exact Int.le_refl b⟩
 | x::l,b=>by
  have e:PK b (x::l)=PK (if b<x then x else b) l:=rfl;rw [e];obtain ⟨h1,h2⟩:=Sq l (if b<x then x else b);have h0:=h2 _ List.mem_cons_self;refine ⟨?_,fun s hs => ?_⟩
  ·rcases List.mem_cons.1 h1 with h | h
   ·rw [h]; split
    ·exact List.mem_cons_of_mem _ List.mem_cons_self
    ·exact List.mem_cons_self
   ·exact List.mem_cons_of_mem _ (List.mem_cons_of_mem _ h)
  ·rcases List.mem_cons.1 hs with rfl | hs
   ·split at h0 <;> split <;> omega
   ·rcases List.mem_cons.1 hs with rfl | hs
    ·split at h0 <;> split <;> omega
    ·exact h2 s (List.mem_cons_of_mem _ hs)
theorem Zbn {b b':Int} {l l':List Int} (h:∀ s,s∈b::l↔s∈b'::l'):PJ b l=PJ b' l':=by
 obtain ⟨h1,h2⟩:=Sp l b;obtain ⟨h3,h4⟩:=Sp l' b';have:=h2 _ ((h _).2 h3);have:=h4 _ ((h _).1 h1);omega
theorem Zbo {b b':Int} {l l':List Int} (h:∀ s,s∈b::l↔s∈b'::l'):PK b l=PK b' l':=by
 obtain ⟨h1,h2⟩:=Sq l b;obtain ⟨h3,h4⟩:=Sq l' b';have:=h2 _ ((h _).2 h3);have:=h4 _ ((h _).1 h1);omega
def nI (n:Int):Vl:=⟨1,n,[]⟩
theorem CF (n:Int):(nI n).right=true:=by simp [nI,Vl.right]
theorem Ft (a b:Int):(nI a).less (nI b)=decide (a<b):=by
 unfold Vl.less;rw [CF,CF];simp [nI];rfl
theorem CG:∀ (l:List Int) (b:Int),(l.map nI).foldl (fun b v=>if Vl.less v b then v else b) (nI b)=nI (PJ b l)
 | [],b=>rfl
 | x::l,b=>by
  rw [List.map_cons,List.foldl_cons,Ft];have e:PJ b (x::l)=PJ (if x<b then x else b) l:=rfl;rw [e,<- CG l];by_cases h:x<b <;> simp [h]
theorem CH:∀ (l:List Int) (b:Int),(l.map nI).foldl (fun b v=>if Vl.more v b then v else b) (nI b)=nI (PK b l)
 | [],b=>rfl
 | x::l,b=>by
  have em:Vl.more (nI x) (nI b)=decide (b<x):=Ft b x;rw [List.map_cons,List.foldl_cons,em];have e:PK b (x::l)=PK (if b<x then x else b) l:=rfl;rw [e,<- CH l];by_cases h:b<x <;> simp [h]
def loL:List Int->Int
 | []=>0
 | b::l=>PJ b l
def hiL:List Int->Int
 | []=>0
 | b::l=>PK b l
theorem ZfO (l:List Int) (x:Int):loL (l++[x])=if l=[]\/x<loL l then x else loL l:=by
 cases l with
 | nil=>rfl
 | cons b l =>
  show PJ b (l++[x])=_;unfold PJ;rw [List.foldl_append,List.foldl_cons,List.foldl_nil];simp only [reduceCtorEq,false_or];rfl
theorem ZfP (l:List Int) (x:Int):hiL (l++[x])=if l=[]\/hiL l<x then x else hiL l:=by
 cases l with
 | nil=>rfl
 | cons b l =>
  show PK b (l++[x])=_;unfold PK;rw [List.foldl_append,List.foldl_cons,List.foldl_nil];simp only [reduceCtorEq,false_or];rfl
theorem Ziu {l l':List Int} (h:∀ s,s∈l↔s∈l') (hne:l≠[]):bst Vl.less (l.map nI)=nI (loL l'):=by
 match l,l',hne with
 | b::l,[],_=>exact absurd ((h b).1 List.mem_cons_self) (by simp)
 | b::l,b'::l',_=>exact (CG l b).trans (by rw [Zbn h]; rfl)
theorem Ziv {l l':List Int} (h:∀ s,s∈l↔s∈l') (hne:l≠[]):bst Vl.more (l.map nI)=nI (hiL l'):=by
 match l,l',hne with
 | b::l,[],_=>exact absurd ((h b).1 List.mem_cons_self) (by simp)
 | b::l,b'::l',_=>exact (CH l b).trans (by rw [Zbo h]; rfl)
end
section
open Go Go.RowKit
def uR (p:Int×Int):List Vl:=[nI p.1,nI p.2]
def Small (ps:List (Int×Int)):Prop:=∀ p∈ps,(-3<=p.1/\p.1<=3) /\ -3<=p.2/\p.2<=3
def gvs (ps:List (Int×Int)) (a:Int):List Int:=(ps.filter fun p=>decide (p.1=a)).map (·.2)
def YR (a:Int) (F:List Int):List Vl:=[nI a,nI F.length,nI F.sum,nI (loL F),nI (hiL F)]
def gS (ps:List (Int×Int)):Nat->Zs
 | 0=>[]
 | j+1=>gS ps j++if gvs ps ((j:Int)-3)=[] then [] else [(YR ((j:Int)-3) (gvs ps ((j:Int)-3)),1)]
theorem ZfQ:∀ i j:Fin 7,gN (((i:Nat):Int)-3)=gN (((j:Nat):Int)-3)->i=j:=by decide +kernel
theorem Ziw {a b:Int} (ha : -3<=a/\a<=3) (hb : -3<=b/\b<=3) (h:gN a=gN b):a=b:=by
 have h1:=ZfQ ⟨(a+3).toNat,by omega⟩ ⟨(b+3).toNat,by omega⟩ (by
  show gN ((((a+3).toNat:Nat):Int)-3)=gN ((((b+3).toNat:Nat):Int)-3);rw [show (((a+3).toNat:Nat):Int)-3=a by omega,show (((b+3).toNat:Nat):Int)-3=b by omega]
  exact h)
 have h2:(a+3).toNat=(b+3).toNat:=congrArg Fin.val h1;omega
theorem Zbp:cKS.Nodup:=by decide +kernel
def c1 (r:List Vl):Int:=(r[1]?.getD (⟨0,0,[]⟩:Vl)).n
theorem ZdJ {ps:List (Int×Int)} (hs:Small ps) {a:Int} (ha : -3<=a/\a<=3):((ps.map uR).filter fun r=>decide (nmR Ev.kfK r=gN a))=(ps.filter fun p=>decide (p.1=a)).map uR:=by
 rw [List.filter_map]
 congr 1
 refine List.filter_congr fun p hp => ?_;show decide (gN p.1=gN a)=decide (p.1=a);by_cases e:p.1=a
 ·rw [e]; simp
 ·rw [decide_eq_false e,decide_eq_false fun h=>e (Ziw (hs p hp).1 ha h)]
theorem Zix (l:List (Int×Int)):((l.map uR).map c1).sum=(l.map (·.2)).sum:=by
 rw [List.map_map]; rfl
theorem Ziy {k:Nat} (hk:k<=40) {T:Zs} {ps:List (Int×Int)} (hi:LC k T) (hb:Bag T (ps.map uR)) (hs:Small ps) {a:Int} (ha : -3<=a/\a<=3) :
  it1 Ev.kfK cfs T (gN a)=if gvs ps a=[] then [] else [⟨YR a (gvs ps a),1,0⟩]:=by
 have hG:=hb.grp Ev.kfK (gN a);rw [ZdJ hs ha] at hG;have hz:ZP (ZV Ev.kfK T (gN a)):=((hi.fin JL hk).VC _).set;have hem:=hG.empty hz;unfold it1;by_cases h0:gvs ps a=[]
 ·have h1:ps.filter (fun p=>decide (p.1=a))=[]:=List.map_eq_nil_iff.1 h0;rw [if_pos h0,if_pos (hem.1 (by rw [h1]; rfl))]
 ·have hne:ZV Ev.kfK T (gN a)≠[]:=fun e=>h0 (by
   have h1:=List.map_eq_nil_iff.1 (hem.2 e);unfold gvs
   rw [h1]; rfl)
  rw [if_neg h0,if_neg hne]
  have hcr:∀ p∈ZV Ev.kfK T (gN a),p.1[1]?.getD ⟨0,0,[]⟩=nI (c1 p.1):=fun p hp=>by
   obtain ⟨n,m,e,_⟩:=hi.row p (ZY.1 hp).1;rw [e]; rfl
  have hmem:∀ s,s∈(ZV Ev.kfK T (gN a)).map (fun p=>c1 p.1)↔s∈gvs ps a:=fun s=>by
   rw [List.mem_map];unfold gvs;rw [List.mem_map];constructor
   ·rintro ⟨p,hp,rfl⟩;obtain ⟨q,hq,e⟩:=List.mem_map.1 ((hG.mem hz).2 ⟨p,hp,rfl⟩);exact ⟨q,hq,by rw [<- e]; rfl⟩
   ·rintro ⟨q,hq,rfl⟩;obtain ⟨p,hp,e⟩:=(hG.mem hz).1 (List.mem_map.2 ⟨q,hq,rfl⟩);exact ⟨p,hp,by rw [e]; rfl⟩
  have fF:Qy 1 (Zi (ZV Ev.kfK T (gN a)))=((ZV Ev.kfK T (gN a)).map fun p=>c1 p.1).map nI:=by
   unfold Qy Zi;rw [List.map_map,List.map_map];exact List.map_congr_left fun p hp=>hcr p hp
  have hne2:((ZV Ev.kfK T (gN a)).map fun p=>c1 p.1)≠[]:=fun e=>hne (List.map_eq_nil_iff.1 e);have e1:Zq (Zi (ZV Ev.kfK T (gN a)))=((gvs ps a).length:Int):=by rw [hG.len]; simp [gvs]
  have e2:Qf 1 (Zi (ZV Ev.kfK T (gN a)))=(gvs ps a).sum:=by
   rw [Pf,hG];show (((ps.filter fun p=>decide (p.1=a)).map uR).map c1).sum=_;rw [Zix]; rfl
  have e3:bst Vl.less (Qy 1 (Zi (ZV Ev.kfK T (gN a))))=nI (loL (gvs ps a)):=by rw [fF]; exact Ziu hmem hne2
  have e4:bst Vl.more (Qy 1 (Zi (ZV Ev.kfK T (gN a))))=nI (hiL (gvs ps a)):=by rw [fF]; exact Ziv hmem hne2
  have ht:Qp Ev.kfK cfs T (gN a)=YR a (gvs ps a):=by
   obtain ⟨p,l,hg⟩:∃ p l,ZV Ev.kfK T (gN a)=p::l:=by
    cases e:ZV Ev.kfK T (gN a) with
    | nil=>exact absurd e hne
    | cons p l=>exact ⟨p,l,rfl⟩
   obtain ⟨q,hq,e⟩:=List.mem_map.1 ((hG.mem hz).2 ⟨p,by rw [hg]; exact List.mem_cons_self,rfl⟩);have hqa:q.1=a:=of_decide_eq_true (List.mem_filter.1 hq).2;unfold Qp;rw [hg] at e1 e2 e3 e4 ⊢;show QQ Ev.kfK p.1++[JQ (WO,0) (Zi (p::l)),JQ (TU,1) (Zi (p::l)),JQ (TV,1) (Zi (p::l)),JQ (S7,1) (Zi (p::l))]=_;have a1:JQ (WO,0) (Zi (p::l))=⟨1,Zq (Zi (p::l)),[]⟩:=if_pos rfl
   have a2:JQ (TU,1) (Zi (p::l))=⟨1,Qf 1 (Zi (p::l)),[]⟩:=by
    unfold JQ;rw [if_neg (by decide),if_pos rfl]
   have a3:JQ (TV,1) (Zi (p::l))=bst Vl.less (Qy 1 (Zi (p::l))):=by
    unfold JQ;rw [if_neg (by decide),if_neg (by decide),if_pos rfl]
   have a4:JQ (S7,1) (Zi (p::l))=bst Vl.more (Qy 1 (Zi (p::l))):=by
    unfold JQ;rw [if_neg (by decide),if_neg (by decide),if_neg (by decide)]
   rw [a1,a2,a3,a4,e1,e2,e3,e4,<- e,<- hqa];rfl
  rw [ht]
theorem ZdK {ps:List (Int×Int)}:∀ {j:Nat} {p:List Vl×Int},p∈gS ps j->∃ (a:Int) (F:List Int),a<(j:Int)-3/\p=(YR a F,1)
 | 0,p,h=>by cases h
 | j+1,p,h=>by
  rw [gS] at h;rcases List.mem_append.1 h with h | h
  ·obtain ⟨a,F,h1,h2⟩:=ZdK h;exact ⟨a,F,by omega,h2⟩
  ·split at h
   ·cases h
   ·exact ⟨_,_,by omega,List.mem_singleton.1 h⟩
theorem ZdL {a b:Int} (F G:List Int) (h:a<b):Qv (YR a F) (YR b G)<0:=by
 have:Vb (nI a) (nI b)<0:=by
  rw [Vo,Ft];simp [h]
 unfold YR;rw [Qv,if_neg (by omega)];exact this
theorem zV (ps:List (Int×Int)):∀ j,ZP (gS ps j)
 | 0=>ZP.nil
 | j+1=>by
  have ih:=zV ps j;rw [gS];split
  ·rw [List.append_nil]; exact ih
  ·refine ⟨fun p hp => ?_,fun p hp => ?_,List.pairwise_append.2 ⟨ih.ord,List.pairwise_singleton _ _,fun p hp q hq => ?_⟩⟩
   ·rcases List.mem_append.1 hp with hp | hp
    ·exact ih.row p hp
    ·rw [List.mem_singleton.1 hp];simp [Zj,YR,nI,Vl.right]
   ·rcases List.mem_append.1 hp with hp | hp
    ·exact ih.net p hp
    ·rw [List.mem_singleton.1 hp]; simp
   ·obtain ⟨a,F,h1,rfl⟩:=ZdK hp;rw [List.mem_singleton.1 hq];exact ZdL _ _ h1
theorem Zht {k:Nat} (hk:k<=40) {T:Zs} {ps:List (Int×Int)} (hi:LC k T) (hb:Bag T (ps.map uR)) (hs:Small ps) (r:List Vl):∀ j,j<=7->nf (gS ps j) r=Qs (((List.range j).map fun i:Nat=>gN ((i:Int)-3)).flatMap (it1 Ev.kfK cfs T)) r
 | 0,_=>rfl
 | j+1,hj=>by
  rw [gS,Sr,Zht hk hi hb hs r j (by omega),List.range_succ,List.map_append,List.flatMap_append,Z9]
  congr 1
  rw [List.map_cons,List.map_nil,List.flatMap_cons,List.flatMap_nil,List.append_nil,Ziy hk hi hb hs (by omega)];split
  ·rfl
  ·simp [nf,Qs,Itm.net]
theorem ZkN {k:Nat} (hk:k<=40) {T:Zs} {ps:List (Int×Int)} (hi:LC k T) (hb:Bag T (ps.map uR)) (hs:Small ps):cO T=gS ps 7 :=
 ZP.uniq (hi.out JL hk).set (zV ps 7) fun r=>by
  rw [Zht hk hi hb hs r 7 (by omega)];show nf (Ve Ev.kfK cfs T) r=_;rw [Fj]
  exact (Yk (f:=it1 Ev.kfK cfs T) Zbp (Jo _) (fun k hk=>by
   obtain ⟨p,hp,e⟩:=Sa.1 hk
   exact e▸JL.nm p.1 (hi.row p hp)) r fun k _ hk=>by
   unfold it1
   rw [if_pos (Wp.2 hk)]; rfl).symm
end
namespace Ev
open Go Go.Proofs
theorem ZdM:Zio=true:=by decide +kernel
end Ev
namespace Ev
open Go Go.Proofs
theorem ZdN:preB=true:=by decide +kernel
end Ev
section
open Go.RowKit
theorem H0 (n:Int) (w:World):Calls prog 27 #[.int .i64 n] w fun e w'=>e = .returned (.agg #[.int .i64 1,.int .i64 n,.string ⟨#[]⟩])/\Chg (fun _=>False) w w':=by
 go_enter func27,ntmps27
 go_wp2_with fail
 refine bodyPost_ret (v := .agg #[.int .i64 1,.int .i64 n,.string ⟨#[]⟩]) ?_ rfl ?_
 ·simp only [results,show Tryz.f27.results = #[.cell 2 55] from rfl];go_simp
 ·exact ⟨rfl,(Chg.refl _ w).alloc _⟩
def ZdO (w:World) (par:Bool) (rem:Bool) (e:Ending) (w':World):Prop :=
 ∃ (rb len:Nat) (row:List Vl),e = .returned (.agg #[.string (if par then ⟨#[117]⟩ else ⟨#[116]⟩),.slice (some ⟨rb,0,none⟩) len len,.bool rem])/\w.heap.size<=rb/\Zm (fun b=>b=rb) w' (.slice (some ⟨rb,0,none⟩) len len) row/\Sc par row/\Chg (fun _=>False) w w'
theorem ZkO (n:Int) : -3<=n.tmod 4/\n.tmod 4<=3:=by
 have b1 : -4<n.tmod 4:=Int.lt_tmod_of_pos n (by omega);have b2:n.tmod 4<4:=Int.tmod_lt_of_pos n (by omega);omega
theorem ZfR {w:World} {rb:Nat} {n m:Int} (h:w.heap[rb]? = some (.cells #[.int .i64 1,.int .i64 n,.string ⟨#[]⟩,.int .i64 1,.int .i64 m,.string ⟨#[]⟩] 55 (0,0))) :
  Zm (fun b=>b=rb) w (.slice (some ⟨rb,0,none⟩) 2 2) [⟨1,n,[]⟩,⟨1,m,[]⟩]:=by
 have hlt:rb<w.heap.size:=lt_of_block h;refine ⟨_,_,rfl,by simp,by decide,fun _=>⟨rb,0,rfl,rfl,hlt,fun j x hj => ?_⟩⟩;have c:=fun i=>cell_of_row w rb i _ _ _ h
 match j,hj with
 | 0,hj=>cases hj; exact ⟨by rw [c]; rfl,by rw [c]; rfl,by rw [c]; rfl,by simp⟩
 | 1,hj=>cases hj; exact ⟨by rw [c]; rfl,by rw [c]; rfl,by rw [c]; rfl,by simp⟩
 | j+2,hj=>simp at hj
theorem VF {w w1:World} {o p:Obj} (h:Chg (fun _=>False) ((w.alloc o).alloc p) w1):w.heap.size+2<=w1.heap.size:=by
 have h1:=h.size;have e1:∀ (W:World) (o:Obj),(W.alloc o).heap.size=W.heap.size+1:=fun W o=>Array.size_push _;rw [e1,e1] at h1;exact h1
theorem XC {w:World} {B:Nat} {x y z:Value} {t:TypeId} (h:w.heap[B]? = some (.cells #[x,y,z] t (0,0))) :
  (∀ o,(w.alloc o).cell? ⟨B,0,none⟩=some x)/\(∀ o,(w.alloc o).cell? ⟨B,1,none⟩=some y)/\(∀ o,(w.alloc o).cell? ⟨B,2,none⟩=some z)/\(∀ o,(w.alloc o).frozen? ⟨B,0,none⟩=false)/\(∀ o,(w.alloc o).frozen? ⟨B,1,none⟩=false)/\(∀ o,(w.alloc o).frozen? ⟨B,2,none⟩=false):=by
 have h2:∀ o,(w.alloc o).heap[B]? = some (.cells #[x,y,z] t (0,0)):=fun o=>((Chg.refl (fun _=>False) w).alloc o).heap h fun h=>h;exact ⟨fun o=>(Z1 (h2 o)).1,fun o=>(Z1 (h2 o)).2.1,fun o=>(Z1 (h2 o)).2.2,fun o=>frozen_of_row _ B 0 _ _ (h2 o),fun o=>frozen_of_row _ B 1 _ _ (h2 o),fun o=>frozen_of_row _ B 2 _ _ (h2 o)⟩
theorem Ss {w w2:World} {n m:Int} {A:Value} {rem:Bool} {x y z:Value} (c:Chg (fun _=>False) w w2) (hsz:w.heap.size+2<=w2.heap.size) (hn : -3<=n/\n<=3) (hm : -3<=m/\m<=3) :
  ZdO w true rem (.returned (.agg #[.string ⟨#[117]⟩,.slice (some ⟨w2.heap.size,0,none⟩) 2 2,.bool rem]))
   (((((w2.alloc (.cells #[.int .i64 1,.int .i64 n,.string ⟨#[]⟩,.int .i64 1,.int .i64 m,.string ⟨#[]⟩] 55)).setCell ⟨w.heap.size,1,none⟩ A).setCell ⟨w.heap.size+1,0,none⟩ x).setCell ⟨w.heap.size+1,1,none⟩ y).setCell ⟨w.heap.size+1,2,none⟩ z):=by
 have h2:Chg (fun k=>k=w.heap.size\/k=w.heap.size+1) (w2.alloc (.cells #[.int .i64 1,.int .i64 n,.string ⟨#[]⟩,.int .i64 1,.int .i64 m,.string ⟨#[]⟩] 55)) _ :=
  Chg.Qb (Chg.Qb (Chg.Qb (Chg.Qb (Chg.refl _ _) (D:=w.heap.size) (.inl rfl) 1 A) (D:=w.heap.size+1) (.inr rfl) 0 x) (D:=w.heap.size+1) (.inr rfl) 1 y) (D:=w.heap.size+1) (.inr rfl) 2 z
 refine ⟨w2.heap.size,2,_,rfl,by omega,ZfR (h2.heap (heap_alloc_new w2 _) (by omega)),⟨n,m,rfl,hn,hm⟩,(c.alloc _).trans h2 fun i hi e=>by omega⟩
theorem UB {F:Nat->Prop} {w:World} {tab:ByteArray} {rv:Value} {r:List Vl} {rem:Bool} (h:Zm F w rv r) (hod:tab.size%2=1) :
  Calls prog 24 #[.agg #[.string tab,rv,.bool rem]] w (ZdO w true rem):=by
 have dH:=H0;obtain ⟨A,cap,rfl,hn,hcap,hat⟩:=h;have t1:=ZkO;have t0:(0:Int)<=3:=by decide
 have hp2:(((tab.size:Int)%2)==0)=false:=by rw [beq_eq_false_iff_ne]; omega
 clear hod;by_cases h0:0<r.length
 ·obtain ⟨b,off,rfl,_,hb,hx⟩:=hat h0;obtain ⟨x,hx0⟩:∃ x,r[0]? = some x:=⟨_,List.getElem?_eq_getElem h0⟩
  obtain ⟨a0,a1,a2,al⟩:=hx 0 x hx0;simp only [Nat.zero_mul,Nat.add_zero] at a0 a1 a2;by_cases h1:1<r.length
  ·obtain ⟨y,hy0⟩:∃ y,r[1]? = some y:=⟨_,List.getElem?_eq_getElem h1⟩
   obtain ⟨b0,b1,b2,bl⟩:=hx 1 y hy0;simp only [Nat.one_mul] at b0 b1 b2;clear hat hx hx0 hy0;obtain ⟨L,hL⟩:∃ L,r.length=L:=⟨_,rfl⟩
   rw [hL] at h0 h1 ⊢;clear hL;have l0:(0:Int)<(L:Int):=by omega
   have l1:(1:Int)<(L:Int):=by omega
   go_enter func24,ntmps24
   go_wp2_with fail
   all_goals
    refine (dH _ _).mono ?_;rintro _ w1 ⟨rfl,c1⟩;have cc:=(((Chg.refl (fun _=>False) w).alloc _).alloc _).trans c1 fun _ _ h=>h;have hs2:=VF c1;have hz:=c1.size;obtain ⟨p0,p1⟩:=Qz c1
    go_wp2_with fail
    refine (dH _ _).mono ?_;rintro _ w2 ⟨rfl,c2⟩;have p0:=c2.heap p0 fun h=>h;have p1:=c2.heap p1 fun h=>h;have cc:=cc.trans c2 fun _ _ h=>h;have hz2:=c2.size;have hsz:w.heap.size+2<=w2.heap.size:=by have:=hs2; omega
    obtain ⟨q0,q1,q2,z0,z1,z2⟩:=XC p0;obtain ⟨r0,r1,r2,y0,y1,y2⟩:=XC p1;clear p0 p1 c1 c2 hz hz2
    go_wp2_with fail
    refine bodyPost_ret (v := .agg #[.string ⟨#[117]⟩,.slice (some ⟨w2.heap.size,0,none⟩) 2 2,.bool rem]) ?_ rfl ?_
    ·simp only [results,show Tryz.f24.results = #[.cell 2 41] from rfl];go_simp
    ·exact Ss cc hsz (by first | exact t1 _ | decide) (by first | exact t1 _ | decide)
  ·clear hat hx hx0;obtain ⟨L,hL⟩:∃ L,r.length=L:=⟨_,rfl⟩
   rw [hL] at h0 h1 ⊢;clear hL;have l0:(0:Int)<(L:Int):=by omega
   have l1:¬ (1:Int)<(L:Int):=by omega
   go_enter func24,ntmps24
   go_wp2_with fail
   all_goals
    refine (dH _ _).mono ?_;rintro _ w1 ⟨rfl,c1⟩;have cc:=(((Chg.refl (fun _=>False) w).alloc _).alloc _).trans c1 fun _ _ h=>h;have hs2:=VF c1;have hz:=c1.size;obtain ⟨p0,p1⟩:=Qz c1
    go_wp2_with fail
    refine (dH _ _).mono ?_;rintro _ w2 ⟨rfl,c2⟩;have p0:=c2.heap p0 fun h=>h;have p1:=c2.heap p1 fun h=>h;have cc:=cc.trans c2 fun _ _ h=>h;have hz2:=c2.size;have hsz:w.heap.size+2<=w2.heap.size:=by have:=hs2; omega
    obtain ⟨q0,q1,q2,z0,z1,z2⟩:=XC p0;obtain ⟨r0,r1,r2,y0,y1,y2⟩:=XC p1;clear p0 p1 c1 c2 hz hz2
    go_wp2_with fail
    refine bodyPost_ret (v := .agg #[.string ⟨#[117]⟩,.slice (some ⟨w2.heap.size,0,none⟩) 2 2,.bool rem]) ?_ rfl ?_
    ·simp only [results,show Tryz.f24.results = #[.cell 2 41] from rfl];go_simp
    ·exact Ss cc hsz (by first | exact t1 _ | decide) (by first | exact t1 _ | decide)
 ·clear hat;obtain ⟨L,hL⟩:∃ L,r.length=L:=⟨_,rfl⟩
  rw [hL] at h0 ⊢;clear hL;have l0:¬ (0:Int)<(L:Int):=by omega
  have l1:¬ (1:Int)<(L:Int):=by omega
  go_enter func24,ntmps24
  go_wp2_with fail
  all_goals
   refine (dH _ _).mono ?_;rintro _ w1 ⟨rfl,c1⟩;have cc:=(((Chg.refl (fun _=>False) w).alloc _).alloc _).trans c1 fun _ _ h=>h;have hs2:=VF c1;have hz:=c1.size;obtain ⟨p0,p1⟩:=Qz c1
   go_wp2_with fail
   refine (dH _ _).mono ?_;rintro _ w2 ⟨rfl,c2⟩;have p0:=c2.heap p0 fun h=>h;have p1:=c2.heap p1 fun h=>h;have cc:=cc.trans c2 fun _ _ h=>h;have hz2:=c2.size;have hsz:w.heap.size+2<=w2.heap.size:=by have:=hs2; omega
   obtain ⟨q0,q1,q2,z0,z1,z2⟩:=XC p0;obtain ⟨r0,r1,r2,y0,y1,y2⟩:=XC p1;clear p0 p1 c1 c2 hz hz2
   go_wp2_with fail
   refine bodyPost_ret (v := .agg #[.string ⟨#[117]⟩,.slice (some ⟨w2.heap.size,0,none⟩) 2 2,.bool rem]) ?_ rfl ?_
   ·simp only [results,show Tryz.f24.results = #[.cell 2 41] from rfl];go_simp
   ·exact Ss cc hsz (by first | exact t1 _ | decide) (by first | exact t1 _ | decide)
end
section
open Go.RowKit
theorem UC {F G:Nat->Prop} {w:World} {v u:Value} {r:List Vl} (h:Zm F w v r) (hu:Zm G w u r) :
  Calls prog 26 #[v,u] w fun e w'=>e = .returned (.bool true)/\Chg (fun _=>False) w w':=by
 obtain ⟨A,cap,rfl,hn,hcap,hat⟩:=h;obtain ⟨B,cap2,rfl,hn2,hcap2,hbt⟩:=hu;have HA:=Hd hat;have HB:=Hd hbt;clear hat hbt
 go_enter func26,ntmps26
 go_wp2_with fail
 go_loopw [5] (fun i wr=>∃ I:Nat,I<=r.length/\i = .int .i64 I/\Chg (fun _=>False) w wr) (fun i _=>r.length-(intOf i).toNat)
 case atStart=>exact ⟨0,Nat.zero_le _,rfl,Chg.refl _ _⟩
 case round =>
  obtain ⟨I,hI,rfl,hcw⟩:=hrel;by_cases hlt:I<r.length
  ·obtain ⟨b,off,rfl,_,hb,hx⟩:=HA.out (by omega);obtain ⟨b2,bP,rfl,_,hb2,hx2⟩:=HB.out (by omega);obtain ⟨x,ag⟩:∃ x,r[I]? = some x:=⟨_,List.getElem?_eq_getElem hlt⟩
   obtain ⟨q0,q1,q2,_⟩:=(hx I x ag).chg hcw (fun h=>h);obtain ⟨p0,p1,p2,_⟩:=(hx2 I x ag).chg hcw (fun h=>h)
   go_wp2_with fail
   go_region_held (fun wx=>wx.cell? ⟨b,off+I*3,none⟩=some (.int .i64 x.k)/\wx.cell? ⟨b,off+I*3+1,none⟩=some (.int .i64 x.n)/\wx.cell? ⟨b,off+I*3+2,none⟩=some (.string (str x.s))/\wx.cell? ⟨b2,bP+I*3,none⟩=some (.int .i64 x.k)/\wx.cell? ⟨b2,bP+I*3+1,none⟩=some (.int .i64 x.n)/\wx.cell? ⟨b2,bP+I*3+2,none⟩=some (.string (str x.s))) (go_keep) (fail)
   go_wp2_with fail
   go_roundw
   case rel=>exact ⟨I+1,by omega,by go_num,hcw.drew⟩
   case measure=>simp [intOf]; omega
  ·have hge:¬ ((I:Int)<(r.length:Int)):=by omega
   go_wp2_with fail
   go_ret
   exact ⟨rfl,hcw⟩
def vlI (n:Int):Vl:=⟨1,n,[]⟩
theorem UD {w:World} {b cap:Nat} {l:List Int} (h:∀ j x,l[j]? = some x->w.cell? ⟨b,j,none⟩=some (.int .i64 x)) (hlen:l.length<=1000) :
  Calls prog 18 #[.slice (some ⟨b,0,none⟩) l.length cap] w (Neu w fun u w'=>Zm (new w) w' u (l.map vlI)):=by
 have HAT:=Hd h;have HL:=Hd hlen;have dH:=H0;clear h
 go_enter func18,ntmps18
 go_wp2_with fail
 go_loopw [3,4] (fun s i wr=>∃ (I:Nat) (own:Option Nat) (B:Option Addr) (cc:Nat),I<=l.length/\i = .int .i64 I/\s = .slice B I cc/\Hid (Qw wr 55 3 own B I cc (Qd ((l.map vlI).take I)))/\Hid (∀ g,own=some g->w.heap.size<=g)/\Chg (fun _=>False) w wr) (fun _ i _=>l.length-(intOf i).toNat)
 case atStart=>exact ⟨0,none,none,0,Nat.zero_le _,rfl,rfl,Hd (by simpa [Qd] using Qw.Xt _ _ _ _),Hd (fun g h=>by cases h),Chg.refl _ _⟩
 case round =>
  obtain ⟨I,own,B,cc,hI,rfl,rfl,HO,HN,hcw⟩:=hrel;by_cases hlt:I<l.length
  ·obtain ⟨x,ag⟩:∃ x,l[I]? = some x:=⟨_,List.getElem?_eq_getElem hlt⟩
   have q0:=hcw.cell (HAT.out I x ag) (fun h=>h);have HX:=Hd ag;have aD:=Hd hlt;clear ag
   go_wp2_with fail
   refine (dH _ _).mono ?_;rintro _ w1 ⟨rfl,hc⟩;have hcc:=hcw.trans hc fun _ _ h=>h;have H3:=Hd (RZ w1 (.int .i64 1) (.int .i64 x) (.string ⟨#[]⟩) 55);have dx:Chg (fun _=>False) wr (w1.alloc (.cells #[.int .i64 1,.int .i64 x,.string ⟨#[]⟩] 55)):=hc.alloc _;have bQ:=Hd (HO.out.chg dx fun _ _ h=>h)
   go_wp2_with (at_builtin; refine ZA rfl _ _ 39 39 rfl 55 3 32 Mw own B I cc 1 (Qd ((l.map vlI).take I)) [.int .i64 1,.int .i64 x,.string ⟨#[]⟩] _ rfl rfl bQ.out (XK.slice H3.out) (by simp [Value.oneCell']) (I+1) rfl (by have:=HL.out; omega) (by have:=HL.out; omega) ?_)
   intro own' B' c' w3 hown hor ae;have dM:=Hd hown;clear hown
   go_wp2_with fail
   go_roundw
   case rel =>
    have hlt:=aD.out;have tq:=dx.size;have hsz0:=hcw.size;have hsz1:=hcc.size;have e1:(w1.alloc (.cells #[.int .i64 1,.int .i64 x,.string ⟨#[]⟩] 55)).heap.size=w1.heap.size+1:=Array.size_push _;refine ⟨I+1,own',B',c',by omega,by go_num,rfl,Hd ?_,Hd fun g hg => ?_,(hcw.trans dx fun _ _ h=>h).trans ae fun i hi hg=>by have:=HN.out i hg; omega⟩
    ·have e:Qd ((l.map vlI).take (I+1))=Qd ((l.map vlI).take I)++[.int .i64 1,.int .i64 x,.string ⟨#[]⟩]:=by
      rw [List.take_add_one,List.getElem?_map,HX.out];simp [Qd,vlI,Vl.cells,str]
     rw [e];exact dM.out
    ·rcases hor with h0 | h0
     ·exact HN.out g (h0▸hg)
     ·rw [h0] at hg;injection hg with hg
      omega
   case measure=>have hlt:=aD.out; simp [intOf]; omega
  ·have hge:¬ ((I:Int)<(l.length:Int)):=by omega
   go_wp2_with fail
   go_ret
   have e:I=l.length:=by omega
   have ho:=HO.out;have hl:(l.map vlI).length=l.length:=List.length_map _;rw [e,<- hl,List.take_length] at ho;have h1:=Zm.GP (r:=l.map vlI) (F:=new w) (cap:=cc) ho (fun g hg=>HN.out g hg) (fun y hy=>by obtain ⟨n,_,rfl⟩:=List.mem_map.1 hy; simp [vlI]);rw [hl] at h1;exact ⟨_,by rw [e]; rfl,h1,hcw⟩
end
section
open Go.RowKit
theorem UE {F G:Nat->Prop} {w:World} {v u:Value} {l:List Itm} (h:Zp F w v l) (hu:Zp G w u l) :
  Calls prog 20 #[v,u] w fun e w'=>e = .returned (.bool true)/\Chg (fun _=>False) w w':=by
 obtain ⟨A,cap,rfl,hn,hcap,hat⟩:=h;obtain ⟨B,cap2,rfl,hn2,hcap2,hbt⟩:=hu;have HA:=Hd hat;have HB:=Hd hbt;clear hat hbt
 go_enter func20,ntmps20
 go_wp2_with fail
 go_loopw [5] (fun i wr=>∃ I:Nat,I<=l.length/\i = .int .i64 I/\Chg (fun _=>False) w wr) (fun i _=>l.length-(intOf i).toNat)
 case atStart=>exact ⟨0,Nat.zero_le _,rfl,Chg.refl _ _⟩
 case round =>
  obtain ⟨I,hI,rfl,hcw⟩:=hrel;by_cases hlt:I<l.length
  ·obtain ⟨b,off,rfl,_,hb,hx⟩:=HA.out (by omega);obtain ⟨b2,bP,rfl,_,hb2,hx2⟩:=HB.out (by omega);obtain ⟨x,ag⟩:∃ x,l[I]? = some x:=⟨_,List.getElem?_eq_getElem hlt⟩
   obtain ⟨⟨rv,q0,r0⟩,q1,ha,hbb,hrl⟩:=hx I x ag;obtain ⟨⟨qp,p0,r1⟩,p1,_,_,_⟩:=hx2 I x ag;have hrow:∀ W,Chg (fun _=>False) w W->Calls prog 26 #[rv,qp] W fun e w'=>e = .returned (.bool true)/\Chg (fun _=>False) W w':=fun W hc=>UC (r0.Zf hc) (r1.Zf hc)
   have he1:∀ W,(binOp .neq 57 (.complex .f64 (fl x.a) (fl x.b)) (.complex .f64 (fl x.a) (fl x.b))).run prog W = .ok (.bool false) W:=fun W=>by
    have:=Kj (P:=prog) (a:=x.a) (b:=x.b) (c:=x.a) (d:=x.b) (by omega) (by omega) (by omega) (by omega) 57 W;rw [this];simp
   obtain ⟨RA,aa,rfl,_⟩:=r0;obtain ⟨RB,eu,rfl,_⟩:=r1;unfold tc at q1 p1;clear hx hx2 ag
   go_wp2_with fail
   have hWd:Chg (fun _=>False) w wr.drew:=hcw.drew;have c0:wr.drew.cell? ⟨b,off+I*2,none⟩=some (.slice RA x.row.length aa):=hWd.cell q0 (fun h=>h);have c1:wr.drew.cell? ⟨b,off+I*2+1,none⟩=some (.complex .f64 (fl x.a) (fl x.b)):=hWd.cell q1 (fun h=>h);have c2:wr.drew.cell? ⟨b2,bP+I*2,none⟩=some (.slice RB x.row.length eu):=hWd.cell p0 (fun h=>h);have c3:wr.drew.cell? ⟨b2,bP+I*2+1,none⟩=some (.complex .f64 (fl x.a) (fl x.b)):=hWd.cell p1 (fun h=>h);refine wp_region_held_drew (S:=fun wx=>wx.cell? ⟨b,off+I*2,none⟩=some (.slice RA x.row.length aa)/\wx.cell? ⟨b,off+I*2+1,none⟩=some (.complex .f64 (fl x.a) (fl x.b))/\wx.cell? ⟨b2,bP+I*2,none⟩=some (.slice RB x.row.length eu)/\wx.cell? ⟨b2,bP+I*2+1,none⟩=some (.complex .f64 (fl x.a) (fl x.b))) (by kernel_rfl) ⟨c0,c1,c2,c3⟩ (fun hHeld => ?_);refine tkH 0 (some 17) ?_;refine tkH 1 (some 18) ?_;refine tkH 2 (some 19) ?_;refine tkH 3 (some 20) ?_;refine tkH 4 (some 21) ?_;refine tkH 5 (some 22) ?_;refine tkH 6 (some 23) ?_;refine tkH 7 (some 24) ?_;refine tkH 8 (some 25) ?_;refine tkH 9 (some 26) ?_;refine wpAnyH_ready (rs:=[10]) (by kernel_rfl) (by simp) ?_;refine AllReadyH.cons rfl (fun K hK => ?_) AllReadyH.nil;go_simp;refine (hrow _ hWd).mono ?_;rintro _ w1 ⟨rfl,h1⟩;have hW1:=hWd.trans h1 fun _ _ h=>h;have d0:=h1.cell c0 (fun h=>h);have d1:=h1.cell c1 (fun h=>h);have d2:=h1.cell c2 (fun h=>h);have d3:=h1.cell c3 (fun h=>h)
   go_wp2_with fail
   refine hK.out _ _ ?_ (fun hHeld => ?_)
   ·((refine ⟨?_,?_,?_,?_⟩ <;> assumption))
   clear hK K
   try simp only [Act.put,List.setIfInBounds_toArray,List.set_cons_zero,List.set_cons_succ]
   refine tkH 11 (some 28) ?_;refine tkH 12 (some 29) ?_;refine tkH 13 (some 30) ?_;refine tkH 14 (some 31) ?_;refine tkH 15 (some 32) ?_;refine tkH 16 (some 33) ?_;refine tkH 17 (some 34) ?_;refine tkH 18 (some 35) ?_;refine tkH 19 (some 36) ?_;refine tkH 20 (some 37) ?_;refine tkH 21 (some 38) ?_;refine tkH 22 (some 39) ?_;refine tkH 23 (some 40) ?_;refine tkH 24 (some 41) ?_;refine wpAnyH_done (by kernel_rfl) ?_ _
   go_wp2_with fail
   go_roundw
   case rel=>exact ⟨I+1,by omega,by go_num,hW1⟩
   case measure=>simp [intOf]; omega
  ·have hge:¬ ((I:Int)<(l.length:Int)):=by omega
   go_wp2_with fail
   go_ret
   exact ⟨rfl,hcw⟩
end
end Go.Proofs.YtheflbaejhlboaaGreatDoor
