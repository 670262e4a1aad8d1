/- Lemmas for a law of confluencetop. -/
import Derived.Test.YtheflbaejhlboaaGreatDoorTopTx14
set_option linter.all false
set_option maxHeartbeats 8000000
set_option maxRecDepth 1000000
namespace Go.Proofs.YtheflbaejhlboaaGreatDoor
open Tryz
namespace Ev
open Go Go.Proofs
noncomputable section
def pU0:Ent:=⟨97,[(vX 50 415196812802924324615408192355153897696204906210869464939096568775468218452278464974270912725385217143381980875311965992)],
 [],
 0,(.tuple [(.agg [(vI 7),(vX 0 0),.Za,.Za,.Za,.Za,(vL 165 0 3),(vL 174 0 1)]),(vI 0),(vI 0)]),
 [(165,bO [(vX 1 110),(vX 5 500069396323),(vX 0 0),(vX 1 111),(vX 3 7235949),(vX 1 115),(vX 1 112),(vX 3 7889261),(vX 1 115)] 3),
 (174,bO [(vI 1),(vX 1 116),.Za,.Za,.Za,.Za,.Za,.Za] 8)],315⟩
def RL:List (Nat×Orc):=[(97,upO [pU0])]
def ZlF:List (Nat×Zd):=[(0,bC [(vP 1 0),(vL 4 0 1),(vM 6),(vP 7 0)] 0),
 (1,bC [(vL 2 0 1),.Za] 0),
 (2,bO [(vX 1 116),(vL 3 0 3)] 2),
 (3,bO [(vX 1 97),(vI 1),(vX 1 98),(vI 1),(vX 1 115),(vI 2)] 2),
 (4,bO [(vX 1 116),(vL 5 0 3),.Za] 3),
 (5,bO [(vX 1 97),(vI 1),(vX 1 98),(vI 1),(vX 1 115),(vI 2)] 2),
 (6,bM [] 0),
 (7,bC [(vI 1),(vI 0),(vI 0),(vX 0 0),(vI 0),(vI 0),(vI 0),(vX 0 0),(vI 0),(vI 0),(vI 0),(vX 0 0),(vI 0),(vI 0),(vI 0),(vX 0 0),(vI 0),(vI 0),(vI 0),(vX 0 0),(vI 0),(vI 0),(vI 0),(vX 0 0),(vI 0),(vI 0),(vI 0),(vX 0 0),(vI 0),(vI 0),(vI 0),(vX 0 0),(vI 0),(vI 0),(vI 0),(vX 0 0),(vI 0),(vI 0),(vI 0),(vX 0 0),(vI 0),(vI 0),(vI 0),(vX 0 0),(vI 0),(vI 0),(vI 0),(vX 0 0),(vI 0),(vI 0),(vI 0),(vX 0 0),(vI 0),(vI 0),(vI 0),(vX 0 0),(vI 0),(vI 0),(vI 0),(vX 0 0),(vI 0),(vI 0),(vI 0),(vX 0 0)] 0)]
def stL (y:Zb):List (Nat×Zd):=[(0,bC [(vP 1 0),(vL 8 0 1),(vM 11),(vP 31 0)] 0),
 (1,bC [(vL 2 0 1),(vL 4 0 1)] 0),
 (2,bO [(vX 1 116),(vL 3 0 3)] 2),
 (3,bO [(vX 1 97),(vI 1),(vX 1 98),(vI 1),(vX 1 115),(vI 2)] 2),
 (4,bO [(vX 1 118),(vX 50 415196812802924324615408192355153897696204906210869464939096568775468218452278464974270912725385217143381980875311965992),(vI 7),(vX 0 0),.Za,.Za,.Za,.Za,(vL 5 0 3),(vL 6 0 1),(vL 7 0 3)] 11),
 (5,bO [(vX 1 110),(vX 5 500069396323),(vX 0 0),(vX 1 111),(vX 3 7235949),(vX 1 115),(vX 1 112),(vX 3 7889261),(vX 1 115)] 3),
 (6,bO [(vI 1),(vX 1 116),.Za,.Za,.Za,.Za,.Za,.Za] 8),
 (7,bO [(vX 1 110),(vI 1),(vX 1 111),(vI 2),(vX 1 112),(vI 2)] 2),
 (8,bO [(vX 1 116),(vL 9 0 3),(.gho 10 1)] 3),
 (9,bO [(vX 1 97),(vI 1),(vX 1 98),(vI 1),(vX 1 115),(vI 2)] 2),
 (11,bM [((vX 1 118),(vP 12 0),0)] 1),
 (12,bC [(vP 13 0),(vL 27 0 1),(vM 29)] 0),
 (13,bC [(vI 7),(vX 0 0),.Za,.Za,.Za,.Za,(vL 14 0 3),(vL 15 0 1),(vL 16 0 3),(vL 17 0 1),(vL 21 0 1),(.gho 22 2),(vP 23 0),.Zp,.Zp] 0),
 (14,bO [(vX 1 110),(vX 5 500069396323),(vX 0 0),(vX 1 111),(vX 3 7235949),(vX 1 115),(vX 1 112),(vX 3 7889261),(vX 1 115)] 3),
 (15,bO [(vI 1),(vX 1 116),.Za,.Za,.Za,.Za,.Za,.Za] 8),
 (16,bO [(vX 1 110),(vI 1),(vX 1 111),(vI 2),(vX 1 112),(vI 2)] 2),
 (17,bO [(vP 18 0)] 1),
 (18,bC [(vI 1),(vX 1 116),.Za,.Za,.Za,.Za,.Za,.Za,(vL 19 0 3),.Za,.Za,(.gho 20 1),.Zp,.Zp,.Zp] 0),
 (19,bO [(vX 1 97),(vI 1),(vX 1 98),(vI 1),(vX 1 115),(vI 2)] 2),
 (21,bO [(vL 19 0 3)] 1),
 (23,bC [.Za,(vL 24 0 3),(vM 25)] 0),
 (24,bO [(vX 5 500069396323),(vI 0),(vX 3 7235949),(vI 2),(vX 3 7889261),(vI 2)] 2),
 (25,(.opq 26 3)),
 (27,bO [(vX 1 116),(vL 28 0 3)] 2),
 (28,bO [(vX 1 97),(vI 1),(vX 1 98),(vI 1),(vX 1 115),(vI 2)] 2),
 (29,bM [((vX 1 116),(.gho 30 1),0)] 1),
 (31,bC [(.sint .i64 (.ofNat 2) (.ofNat 1) (.ofNat 0)),y,(vI 0),(vX 0 0),(vI 0),(vI 0),(vI 0),(vX 0 0),(vI 0),(vI 0),(vI 0),(vX 0 0),(vI 0),(vI 0),(vI 0),(vX 0 0),(vI 0),(vI 0),(vI 0),(vX 0 0),(vI 0),(vI 0),(vI 0),(vX 0 0),(vI 0),(vI 0),(vI 0),(vX 0 0),(vI 0),(vI 0),(vI 0),(vX 0 0),(vI 0),(vI 0),(vI 0),(vX 0 0),(vI 0),(vI 0),(vI 0),(vX 0 0),(vI 0),(vI 0),(vI 0),(vX 0 0),(vI 0),(vI 0),(vI 0),(vX 0 0),(vI 0),(vI 0),(vI 0),(vX 0 0),(vI 0),(vI 0),(vI 0),(vX 0 0),(vI 0),(vI 0),(vI 0),(vX 0 0),(vI 0),(vI 0),(vI 0),(vX 0 0)] 0)]
def vE:List (Nat×Zd):=stL (.sint .i64 (.ofNat 0) (.ofNat 0) (.ofNat 1))
def ZlG:List (Nat×Zd):=stL (vI 0)
def V2:Vd:=⟨false,0,0,EK 8 [],[],[],[],ZlF,8,[]⟩
def V4:Vd:=⟨true,0,0,[0,1,2,3,4,5,6,7,8,9,11,12,13,14,15,16,17,18,19,21,23,24,25,27,28,29,31],[(10,0),(20,0),(22,0),(26,0),(30,0)],[],[1,2],vE,32,[3]⟩
def VU:Vd:=⟨false,1,0,EK 32 [],[],[(9,1),(10,2),(11,3)],[],ZlG,32,[]⟩
def VA:Vd:=⟨false,1,25,EK 32 [],[],[(1,1),(2,2),(3,3)],[],vE,32,[]⟩
def VB:Vd:=⟨false,0,0,EK 32 [],[],[(1,1),(2,2),(3,3)],[],vE,32,[]⟩
def eT1:Zb:=(.agg [(vI 0),(vI 0),(vI 1),(vX 1 116),(vX 0 0),(vL 7 0 3),.Za])
def eT2:Zb:=(.agg [(vI 0),(vI 0),(vI 3),(vX 1 118),(vX 50 415196812802924324615408192355153897696204906210869464939096568775468218452278464974270912725385217143381980875311965992),.Za,.Za])
def Up:Zb := .agg [vI 0,vI 0,vX 0 0]
def ZlH:Zb := .agg [vI 25,vI 0,vX 0 0]
def txN:Zb := .str [118]
def txV:Zb:=(.str [40,103,114,111,117,112,32,40,41,32,40,110,32,99,111,117,110,116,41,32,40,111,32,109,105,110,32,115,41,32,40,112,32,109,97,120,32,115,41,32,40,116,97,98,108,101,32,116,41,41])
def BRd:YI:={ fn:=fun f=>fnT.get f,Zf:=Vt,reg:=fun _ _=>none,orc:=fun f=>(Z9 (OL++RL) .lf).get f }
def BG (t:Tb):YI:={ fn:=fun f=>fnT.get f,Zf:=Vt,reg:=fun _ _=>none,orc:=fun f=>(Z9 (OL++(RL++glL t)) .lf).get f }
def cR:Zz:=L6 prog BRd ME 1000000 200
def cG (t:Tb):Zz:=L6 prog (BG t) ME 1000000 200
def knd:List Int:=[1,1,2]
def kfK:List Nat:=[]
def kfF:List (List UInt8×Nat):=[([99,111,117,110,116],0),([109,105,110],2),([109,97,120],2)]
def tbR:Tb:={ copy:=[(1,1)],Za6:=[1],plain:=[1],Hq:=[1],rows:=[(8,knd)],kinds:=[(1,knd)],Za7:=[(1,8,false)] }
def tbU (b:Bool):Tb:={
 add:=[(9,16,13),(1,13,9),(2,14,10)],put:=[(1,8,b,9)],flip:=[(1,16)],copy:=[(1,1),(14,14)],Za6:=[1,9,13],plain:=[1,9],Hq:=[1,2,9,10],Ct:=[1],rows:=[(8,knd)],
 kinds:=[(1,knd),(13,knd)],Za7:=sel b [] [(1,8,true)],kf:=[(3,kfK,kfF)],chg:=[(3,13,11,14)] }
def tbE:Tb:={ copy:=[(2,2)] }
def Zds:Zb:=(.str [116])
def stU (b:Bool):St:=((VA.S).Vy).new (.cells [Zds,.gho 32 8,.bool b] 3 false)
def Sr (t:Tb) (V:Vd) (b:Bool) (rep:Zb):Bool :=
 Ws (cG t 16 [.slice 33 0 1 none] (stU b)) fun e s=>Ws (cG t 11 [e,vI 0,.sint .i64 (.ofNat 3) (.ofNat 1) (.ofNat 0)] s) fun b s =>
  Ws (cG t 10 [.ptr 0 0,b] s) fun r s=>sel (XO r rep) (XK V (.ptr 0 0) s) false
def Zid:Bool :=
 Ws (cR 9 [] ⟨.lf,0⟩) fun g s=>sel (XO g (.ptr 3 0)) (Ws (cR 25 [] s) fun ct s=>Ws (cR 12 [Zds,ct] s) fun e1 s=>sel (XO e1 eT1)
  (Ws (cR 11 [eT1,vI 0,vI 1] s) fun b s=>Ws (cR 10 [.ptr 3 0,b] s) fun r s=>sel (XO r Up) (XK V2 (.ptr 3 0) s) false) false) false
def preB:Bool:=Ws (cR 14 [txN,txV] V2.S) fun e s=>sel (XO e eT2) (Ws (cR 11 [eT2,vI 0,vI 2] s) fun b s=>Ws (cR 10 [.ptr 0 0,b] s) fun r s=>sel (XO r Up) (XK V4 (.ptr 0 0) s) false) false
def isSet (v:Zb) (t:Nat):Bool:=match v with
 | .tuple [.gho _ a,.bool true]=>Nat.beq a t
 | _=>false
def Zhg:Bool:=Ws (cG tbE 19 [.ptr 0 0,txN] VU.S) fun r s=>sel (isSet r 2) (XK VB (.ptr 0 0) s) false
end
end Ev
section
open Go Go.RowKit
abbrev Lt:List Vl->Prop:=Sh false
noncomputable abbrev cfs:List (ByteArray×Nat):=Ev.YJ Ev.kfF
def cKS:List (List UInt8):=[nmR Ev.kfK []]
theorem X8:Ui Lt Ev.kfK cfs cKS where
 su:=fun r h=>by
  refine ⟨fun f hf => ?_,fun n hn=>(by cases hn),h.right.1⟩;obtain ⟨n,m,s,rfl,h1,h2,h3⟩:=h;simp only [cfs,Ev.YJ,Ev.kfF,List.map_cons,List.map_nil,List.mem_cons,List.not_mem_nil,or_false] at hf;rcases hf with rfl | rfl | rfl
  ·exact .inl rfl
  ·exact .inr (.inr ⟨.inl rfl,Nat.le_refl 3⟩)
  ·exact .inr (.inr ⟨.inr rfl,Nat.le_refl 3⟩)
 rn:=fun r h=>h.rn
 big:=fun r h=>h.big
 nm:=fun r h=>List.mem_singleton.2 rfl
 few:=Nat.le_of_ble_eq_true rfl
 n0:=Nat.le_of_ble_eq_true rfl
 n6:=Nat.le_of_ble_eq_true rfl
abbrev Cv:=Jo Lt
noncomputable abbrev cO (T:Zs):Zs:=WU Ev.kfK cfs T
noncomputable def cM (T:Zs) (b:Bool) (x:List Vl) (t:Nat):Mn:=match t with
 | 0 => .nz
 | 1 => .set T
 | 2 => .set (cO T)
 | 3 => .obj (Wq Ev.kfK cfs T)
 | 8 => .row x
 | 9 => .set (Qi x (sd b) T)
 | 10 => .set (cO (Qi x (sd b) T))
 | 11 => .obj (Wq Ev.kfK cfs (Qi x (sd b) T))
 | 13 => .set [(x,sd b)]
 | 14 => .set (Lr Ev.kfK cfs T (Qi x (sd b) T))
 | 16 => .set (Xi T)
 | _ => .none
theorem zT {T:Zs} {b:Bool} {x:List Vl} (a:Nat) (φ : (Nat->Prop)->World->Obj->Prop) (h:cM T b x a = .obj φ):∀ F w o,φ F w o->∃ es c,o = .map es c:=by
 intro F w o ho;have h1:∀ (S:Zs),Wq Ev.kfK cfs S F w o->∃ es c,o = .map es c:=fun S ⟨es,c,f,e,_⟩=>⟨es,c,e⟩
 unfold cM at h;split at h <;> first | (cases h; done) | (injection h with h; subst h; exact h1 _ ho)
noncomputable def cB (T:Zs) (t:Nat):Mn:=match t with
 | 0 => .nz
 | 1 => .set T
 | 2 => .set (cO T)
 | 3 => .obj (Wq Ev.kfK cfs T)
 | _ => .none
theorem Zie {T:Zs} (a:Nat) (φ : (Nat->Prop)->World->Obj->Prop) (h:cB T a = .obj φ):∀ F w o,φ F w o->∃ es c,o = .map es c:=by
 intro F w o ho;have h1:∀ (S:Zs),Wq Ev.kfK cfs S F w o->∃ es c,o = .map es c:=fun S ⟨es,c,f,e,_⟩=>⟨es,c,e⟩
 unfold cB at h;split at h <;> first | (cases h; done) | (injection h with h; subst h; exact h1 _ ho)
theorem ZlI (T:Zs) (b:Bool) (r:List Vl):∀ t F w v,QL (cB T) t F w v->QL (cM T b r) t F w v:=by
 intro t F w v h;unfold cB QL at h;unfold cM QL
 match t,h with
 | 0,h=>exact h
 | 1,h=>exact h
 | 2,h=>exact h
 | 3,h=>exact h
 | (t+4),h=>exact absurd h (by simp)
theorem Zkp (T:Zs) (b:Bool) (r:List Vl):∀ t F w o,Kw (cB T) t F w o->Kw (cM T b r) t F w o:=by
 intro t F w o h;unfold cB Kw at h;unfold cM Kw
 match t,h with
 | 0,h=>exact h
 | 1,h=>exact h
 | 2,h=>exact h
 | 3,h=>exact h
 | (t+4),h=>exact absurd h (by simp)
open Ev in
theorem Zkq {k:Nat} (hk:k+1<=40) {T:Zs} (h:Cv k T) {x:List Vl} (hx:Lt x) (hno:nf T x=0):Zdm (cM T true x) tbR:=by
 obtain ⟨r1,r3⟩:=hx.right;refine ⟨rfl,?_,?_,?_,?_,?_,?_,?_,?_,?_,?_,?_,?_,zT⟩
 all_goals intro a
 ·intro _ _ h; cases h
 ·intro _ _ _ h; cases h
 ·intro _ h; cases h
 ·intro c hc;simp only [tbR,List.mem_cons,List.not_mem_nil,or_false,Prod.mk.injEq] at hc;obtain ⟨rfl,rfl⟩:=hc;exact ⟨T,rfl,rfl,h.t.sm (by omega)⟩
 ·intro hc;simp only [tbR,List.mem_cons,List.not_mem_nil,or_false] at hc;subst hc;exact ⟨_,rfl⟩
 ·intro hc;simp only [tbR,List.mem_cons,List.not_mem_nil,or_false] at hc;subst hc;exact ⟨_,rfl,h.pos⟩
 ·intro hc;simp only [tbR,List.mem_cons,List.not_mem_nil,or_false] at hc;subst hc;exact ⟨_,rfl,by have:=h.t.sum; omega⟩
 ·intro h; cases h
 ·intro ks hc;simp only [tbR,List.mem_cons,List.not_mem_nil,or_false,Prod.mk.injEq] at hc;obtain ⟨rfl,rfl⟩:=hc;exact ⟨x,rfl,r3⟩
 ·intro ks hc;simp only [tbR,List.mem_cons,List.not_mem_nil,or_false,Prod.mk.injEq] at hc;obtain ⟨rfl,rfl⟩:=hc;exact ⟨_,rfl,fun p hp=>(h.row p hp).right.2⟩
 ·intro r b hc;simp only [tbR,List.mem_cons,List.not_mem_nil,or_false,Prod.mk.injEq] at hc;obtain ⟨rfl,rfl,rfl⟩:=hc;refine ⟨T,x,rfl,rfl,?_,((h.t.sm (by omega)).net x).1,((h.t.sm (by omega)).net x).2⟩;rw [Ck h.t.set r1];simp [hno]
 ·intro _ _ _ _ h; cases h
open Ev in
theorem Zkr {k:Nat} (hk:k+1<=40) {T:Zs} (h:Cv k T) {b:Bool} {x:List Vl} (hx:Lt x) (hb:b=false->1<=nf T x):Zdm (cM T b x) (tbU b):=by
 obtain ⟨r1,r3⟩:=hx.right;have hs:=Zc6 b;have h2:=h.step X8 hx hb;have m1:Sm T:=h.t.sm (by omega);have m2:Sm (cO T):=(h.out X8 (by omega)).sm (by omega);have m9:Sm (Qi x (sd b) T):=h2.t.sm (by omega);have m10:Sm (cO (Qi x (sd b) T)):=(h2.out X8 hk).sm (by omega);have m13:Sm [(x,sd b)]:=(Hc r1 hs).sm (by omega);have b14:=h.Zkd X8 hx hb hk;have m14:Sm (Lr kfK cfs T (Qi x (sd b) T)):=b14.sm (by omega);refine ⟨rfl,?_,?_,?_,?_,?_,?_,?_,?_,?_,?_,?_,?_,zT⟩
 all_goals intro a
 ·intro a2 c hc;have hc:(a,a2,c)∈[(9,16,13),(1,13,9),(2,14,10)]:=hc;simp only [List.mem_cons,List.not_mem_nil,or_false,Prod.mk.injEq] at hc;rcases hc with ⟨rfl,rfl,rfl⟩ | ⟨rfl,rfl,rfl⟩ | ⟨rfl,rfl,rfl⟩
  ·exact ⟨_,_,_,rfl,rfl,rfl,m13,fun r=>by rw [Sd,Xh,T7]; omega⟩
  ·exact ⟨_,_,_,rfl,rfl,rfl,m9,fun r=>by rw [Sd,Xh]⟩
  ·exact ⟨_,_,_,rfl,rfl,rfl,m10,fun r=>Zc7 _ _ _ _ r⟩
 ·intro r b' c hc;have hc:(a,r,b',c)∈[(1,8,b,9)]:=hc;simp only [List.mem_cons,List.not_mem_nil,or_false,Prod.mk.injEq] at hc;obtain ⟨rfl,rfl,rfl,rfl⟩:=hc;refine ⟨T,x,_,rfl,rfl,rfl,m9,fun r => ?_⟩;rw [Xh];rfl
 ·intro c hc;have hc:(a,c)∈[(1,16)]:=hc;simp only [List.mem_cons,List.not_mem_nil,or_false,Prod.mk.injEq] at hc;obtain ⟨rfl,rfl⟩:=hc;exact ⟨_,_,rfl,rfl,m1,m1.flip,T7 _⟩
 ·intro c hc;have hc:(a,c)∈[(1,1),(14,14)]:=hc;simp only [List.mem_cons,List.not_mem_nil,or_false,Prod.mk.injEq] at hc;rcases hc with ⟨rfl,rfl⟩ | ⟨rfl,rfl⟩
  ·exact ⟨_,rfl,rfl,m1⟩
  ·exact ⟨_,rfl,rfl,m14⟩
 ·intro hc;have hc:a∈[1,9,13]:=hc;simp only [List.mem_cons,List.not_mem_nil,or_false] at hc;rcases hc with rfl | rfl | rfl <;> exact ⟨_,rfl⟩
 ·intro hc;have hc:a∈[1,9]:=hc;simp only [List.mem_cons,List.not_mem_nil,or_false] at hc;rcases hc with rfl | rfl
  ·exact ⟨_,rfl,h.pos⟩
  ·exact ⟨_,rfl,h2.pos⟩
 ·intro hc;have hc:a∈[1,2,9,10]:=hc;simp only [List.mem_cons,List.not_mem_nil,or_false] at hc;rcases hc with rfl | rfl | rfl | rfl
  ·exact ⟨_,rfl,by have:=h.t.sum; omega⟩
  ·exact ⟨_,rfl,by have:=(h.out X8 (by omega)).sum; show ZW (Zl (WU kfK cfs T))<513; omega⟩
  ·exact ⟨_,rfl,by have:=h2.t.sum; omega⟩
  ·exact ⟨_,rfl,by have:=(h2.out X8 hk).sum; show ZW (Zl (WU kfK cfs (Qi x (sd b) T)))<513; omega⟩
 ·intro hc;have hc:a∈[1]:=hc;simp only [List.mem_cons,List.not_mem_nil,or_false] at hc;subst hc;exact ⟨_,rfl,by have:=h.t.sum; omega⟩
 ·intro ks hc;have hc:(a,ks)∈[(8,knd)]:=hc;simp only [List.mem_cons,List.not_mem_nil,or_false,Prod.mk.injEq] at hc;obtain ⟨rfl,rfl⟩:=hc;exact ⟨x,rfl,r3⟩
 ·intro ks hc;have hc:(a,ks)∈[(1,knd),(13,knd)]:=hc;simp only [List.mem_cons,List.not_mem_nil,or_false,Prod.mk.injEq] at hc;rcases hc with ⟨rfl,rfl⟩ | ⟨rfl,rfl⟩
  ·exact ⟨_,rfl,fun p hp=>(h.row p hp).right.2⟩
  ·exact ⟨_,rfl,fun p hp=>by rw [List.mem_singleton.1 hp]; exact r3⟩
 ·intro r b' hc;cases b
  ·have hc:(a,r,b')∈[(1,8,true)]:=hc;simp only [List.mem_cons,List.not_mem_nil,or_false,Prod.mk.injEq] at hc;obtain ⟨rfl,rfl,rfl⟩:=hc;have h1:=hb rfl;refine ⟨T,x,rfl,rfl,?_,(m1.net x).1,(m1.net x).2⟩;rw [Ck h.t.set r1];simp; omega
  ·cases hc
 ·intro kf d a' o h1 hc;have h1:(a,kf)∈[(3,kfK,kfF)]:=h1;have hc:(a,d,a',o)∈[(3,13,11,14)]:=hc;simp only [List.mem_cons,List.not_mem_nil,or_false,Prod.mk.injEq] at h1 hc;obtain ⟨rfl,rfl⟩:=h1;obtain ⟨_,rfl,rfl,rfl⟩:=hc;exact ⟨_,_,_,_,rfl,rfl,rfl,rfl,h.chg X8 hx hb hk⟩
open Ev in
theorem Zks {k:Nat} (hk:k<=40) {T:Zs} (h:Cv k T):Zdm (cB T) tbE:=by
 refine ⟨rfl,?_,?_,?_,?_,?_,?_,?_,?_,?_,?_,?_,?_,Zie⟩
 all_goals intro a
 ·intro _ _ h; cases h
 ·intro _ _ _ h; cases h
 ·intro _ h; cases h
 ·intro c hc;have hc:(a,c)∈[(2,2)]:=hc;simp only [List.mem_cons,List.not_mem_nil,or_false,Prod.mk.injEq] at hc;obtain ⟨rfl,rfl⟩:=hc;exact ⟨_,rfl,rfl,(h.out X8 hk).sm (by omega)⟩
 ·intro h; cases h
 ·intro h; cases h
 ·intro h; cases h
 ·intro h; cases h
 ·intro _ h; cases h
 ·intro _ h; cases h
 ·intro _ _ h; cases h
 ·intro _ _ _ _ h; cases h
end
namespace Ev
open Go Go.Proofs
theorem ZfD:Bool.and (Cu pU0) (Qd prog B0 M0 1000000 200 pU0)=true:=by decide +kernel
end Ev
namespace Ev
open Go Go.Proofs
section
variable {S S':Sig} (hx:S'.x=S.x) (hy:S'.y=S.y) (ha:S'.arg=S.arg) (hm:∀ t F w v,S.Q6 t F w v->S'.Q6 t F w v) (ho:∀ t F w o,S.Xg t F w o->S'.Xg t F w o) {r:Rho}
include hx hy ha hm
mutual
theorem VR.sig:∀ {v:Zb} {u:Value},@VR S r v u->@VR S' r v u:=fun {v u} h=>by
 cases h with
 | bool b=>exact @VR.bool S' r b
 | int k n=>exact @VR.int S' r k n
 | flt k b=>exact @VR.flt S' r k b
 | Z3 k a b=>exact @VR.Z3 S' r k a b
 | str l=>exact @VR.str S' r l
 | Zp=>exact @VR.Zp S' r
 | ptr h=>exact @VR.ptr S' r _ _ _ h
 | Za=>exact @VR.Za S' r
 | Z5 a c=>exact @VR.Z5 S' r a c
 | slice h hn hc hu=>exact @VR.slice S' r _ _ _ _ _ _ h hn hc hu
 | Zi=>exact @VR.Zi S' r
 | map h=>exact @VR.map S' r _ _ h
 | func f ha' hb=>exact @VR.func S' r f _ _ _ _ (VRs.sig ha') (VRs.sig hb)
 | ZJ=>exact @VR.ZJ S' r
 | nilIface=>exact @VR.nilIface S' r
 | iface t h=>exact @VR.iface S' r t _ _ (VR.sig h)
 | agg h=>exact @VR.agg S' r _ _ (VRs.sig h)
 | tuple h=>exact @VR.tuple S' r _ _ (VRs.sig h)
 | sint k h=>exact @VR.sint S' r k _ _ _ _ (by rw [hx,hy]; exact h)
 | raw h=>exact @VR.raw S' r _ _ (by rw [ha]; exact h)
 | gho h hg hu hm'=>exact @VR.gho S' r _ _ _ _ _ h hg hu (hm _ _ _ _ hm')
theorem VRs.sig:∀ {l:List Zb} {l':List Value},@VRs S r l l'->@VRs S' r l l':=fun {l l'} h=>by
 cases h with
 | nil=>exact @VRs.nil S' r
 | cons h t=>exact @VRs.cons S' r _ _ _ _ (VR.sig h) (VRs.sig t)
end
theorem ERs.sig {l:List Entry} {l':List MapEntry} (h:@ERs S r l l'):@ERs S' r l l':=by
 induction h with
 | nil=>exact @ERs.nil S' r
 | cons h _ ih=>exact @ERs.cons S' r _ _ _ _ ⟨VR.sig hx hy ha hm h.1,VR.sig hx hy ha hm h.2.1,h.2.2⟩ ih
include ho in
theorem BR.sig {b:Zd} {x:RB} {o:Obj} (h:@BR S r b x o):@BR S' r b x o:=by
 cases b with
 | cells cs e opn =>
  obtain ⟨h0,vs,rest,t,fr,h1,h2,h3⟩:=h;exact ⟨h0,vs,rest,t,fr,h1,VRs.sig hx hy ha hm h2,h3⟩
 | map es c =>
  obtain ⟨l,h1,h2⟩:=h;exact ⟨l,h1,ERs.sig hx hy ha hm h2⟩
 | mapIter m since seen st =>
  cases m with
  | none=>exact h
  | some m=>exact h
 | opq i t =>
  obtain ⟨y,g,h1,h2,h3⟩:=h;exact ⟨y,g,h1,h2,ho _ _ _ _ h3⟩
include ho in
theorem Kn.sig {s:St} {T:Nat->Prop} {w:World} {L:List Zb} {U:List Value} (h:Kn S s T w L U):Kn S' s T w L U:=by
 obtain ⟨r,⟨⟨h1,h2⟩,h3,h4,h5⟩,h6,h7⟩:=h;refine ⟨r,@Rel.mk S' _ _ _ (@RelB.mk S' _ _ _ (fun i b x hb hx' => ?_) h2) h3 h4 h5,VRs.sig hx hy ha hm h6,h7⟩;obtain ⟨o,k1,k2⟩:=h1 i b x hb hx';exact ⟨o,k1,BR.sig hx hy ha hm ho k2⟩
end
end Ev
namespace Ev
open Go Go.Proofs Go.RowKit
def M0s (t:Nat):Mn:=match t with
 | 0 => .nz
 | _ => .none
noncomputable abbrev S0:Sig:=Zdr M0s rfl 0 0 (by decide) (by decide)
section
variable {S:Sig} {r:Rho} {a:Zb} {u:Value} {l:List Zb} {m:List Value}
theorem vn:@VRs S r [] []:=@VRs.nil S r
theorem vc (h:@VR S r a u) (t:@VRs S r l m):@VRs S r (a::l) (u::m):=@VRs.cons S r _ _ _ _ h t
theorem vi {k:IntKind} {n:Int}:@VR S r (.int k n) (.int k n):=@VR.int S r k n
theorem vs {l:List UInt8}:@VR S r (.str l) (.string ⟨⟨l⟩⟩):=@VR.str S r l
theorem vb {b:Bool}:@VR S r (.bool b) (.bool b):=@VR.bool S r b
theorem vh (h:@VRs S r (a::l) (u::m)):@VR S r a u:=((@VD S _ _ _ _ _).1 h).1
theorem vt (h:@VRs S r (a::l) (u::m)):@VRs S r l m:=((@VD S _ _ _ _ _).1 h).2
end
section
variable {S:Sig} {s:St} {T:Nat->Prop} {w:World} {L:List Zb} {U:List Value} {u:Value}
theorem Kn.ptr {i o:Nat} (h:Kn S s T w (.ptr i o::L) (u::U)):∃ b,u = .pointer (some ⟨b,o,none⟩):=by
 obtain ⟨r,_,hv,_⟩:=h;obtain ⟨hx,_⟩:=(@VD S _ _ _ _ _).1 hv;clear hv;cases hx;exact ⟨_,rfl⟩
theorem Kn.rep {a b:Int} (h:Kn S s T w (.agg [.int .i64 a,.int .i64 b,.str []]::L) (u::U)):u = .agg #[.int .i64 a,.int .i64 b,.string ⟨#[]⟩]:=by
 obtain ⟨r,_,hv,_⟩:=h;obtain ⟨hx,_⟩:=(@VD S _ _ _ _ _).1 hv;clear hv;cases hx with
 | agg h=>cases h with
  | cons h1 h=>cases h with
   | cons h2 h=>cases h with
    | cons h3 h=>cases h; cases h1; cases h2; cases h3; rfl
theorem Kn.entry {a b c:Int} {n t:List UInt8} {i m:Nat} (h:Kn S s T w (.agg [.int .i64 a,.int .i64 b,.int .i64 c,.str n,.str t,.slice i 0 m none,.Za]::L) (u::U)) :
  ∃ A cap,u = .agg #[.int .i64 a,.int .i64 b,.int .i64 c,.string ⟨⟨n⟩⟩,.string ⟨⟨t⟩⟩,.slice A m cap,.slice none 0 0]:=by
 obtain ⟨r,_,hv,_⟩:=h;obtain ⟨hx,_⟩:=(@VD S _ _ _ _ _).1 hv;clear hv;cases hx with
 | agg h=>cases h with
  | cons h1 h=>cases h with
   | cons h2 h=>cases h with
    | cons h3 h=>cases h with
     | cons h4 h=>cases h with
      | cons h5 h=>cases h with
       | cons h6 h=>cases h with
        | cons h7 h=>cases h; cases h1; cases h2; cases h3; cases h4; cases h5; cases h6; cases h7; exact ⟨_,_,rfl⟩
end
abbrev TT (w:World):Nat->Prop:=fun k=>w.heap.size<=k
theorem Kn.low {S:Sig} {s:St} {T:Nat->Prop} {w0 w w':World} {L:List Zb} {U:List Value} (h:Kn S s (fun k=>T k\/w.heap.size<=k) w' L U) (hT:∀ k,T k->w0.heap.size<=k) (hw:w0.heap.size<=w.heap.size):Kn S s (TT w0) w' L U :=
 h.mono fun k hk _=>by
  rcases hk with hk | hk
  ·exact hT k hk
  ·show w0.heap.size<=k;omega
def Ss (w0 w2:World) (g ch:Value) (c q:Int) (R:Value->World->Prop):Prop :=
 ∃ P1 P2:Value->World->Prop,
  Calls prog 16 #[ch] w2 (fun e w'=>∃ u,e = .returned u/\P1 u w') /\
  (∀ u w',P1 u w'->Calls prog 11 #[u,.int .i64 c,.int .i64 q] w' fun e w'=>∃ u,e = .returned u/\P2 u w') /\
  (∀ u w',P2 u w'->Calls prog 10 #[g,u] w' fun e w'=>∃ u,e = .returned u/\R u w')
theorem Kn.tup {S:Sig} {s:St} {T:Nat->Prop} {w:World} {L:List Zb} {U:List Value} {u:Value} {i t:Nat} {M:Nat->Mn} {A:Zs} (h:Kn S s T w (.tuple [.gho i t,.bool true]::L) (u::U)) (hM:S.Q6=QL M) (hA:M t = .set A) :
  ∃ sv,u = .tuple #[sv,.bool true]/\Sm A/\Zo T w sv (Zl A):=by
 have h':=h;obtain ⟨r,_,hv,_⟩:=h';have hx:=vh hv
 have key:∃ sv,u = .tuple #[sv,.bool true]:=by
  cases hx with
  | tuple hx=>cases hx with
   | cons h1 hx=>cases hx with
    | cons h2 hx=>cases hx; cases h2; exact ⟨_,rfl⟩
 obtain ⟨sv,rfl⟩:=key
 have hk:Kn S s T w [.gho i t] [sv]:=h.pick fun r h=>by
  have hx:=vh h;cases hx with
  | tuple hx=>exact vc (vh hx) vn
 obtain ⟨h1,h2⟩:=hk.set hM (fun r h=>vh h) hA;exact ⟨sv,rfl,h1,h2⟩
theorem Kn.Vt {S:Sig} {s:St} {T T':Nat->Prop} {w w':World} {L:List Zb} {U:List Value} (h:Kn S s T w L U) (hc:Chg T' w w') (hd:∀ k,T k->¬ T' k):Kn S s T w' L U:=by
 obtain ⟨r,⟨⟨h1,h2⟩,h3,h4,h5⟩,h6,h7⟩:=h;refine ⟨r,@Rel.mk S _ _ _ (@RelB.mk S _ _ _ (fun i b x hb hx => ?_) h2) h3 h4 (fun i x g hx hg => ?_),h6,h7⟩
 ·obtain ⟨o,k1,k2⟩:=h1 i b x hb hx;exact ⟨o,hc.heap k1 (hd _ (h7 _ (.inl ⟨i,b,x,hb,hx,rfl⟩))),k2⟩
 ·obtain ⟨k1,k2⟩:=h5 i x g hx hg;have hs:=hc.size;refine ⟨Nat.le_trans k1 hs,fun k hk hl=>⟨?_,(k2 k hk hl).2⟩⟩;rw [hc.block k (by omega) (hd k (h7 k (.inr ⟨i,x,g,hx,hg,hk,hl⟩)))];exact (k2 k hk hl).1
end Ev
namespace Ev
open Go Go.Proofs
theorem zU [Sig]:∀ x∈RL,Qc prog x.1 x.2:=by
 intro x hx;simp only [RL,List.mem_cons,List.not_mem_nil,or_false] at hx;subst hx;refine vC fun e he => ?_;simp only [List.mem_cons,List.not_mem_nil,or_false] at he;subst he;have h:=ZfD;rw [Bool.and_eq_true] at h;exact ⟨rfl,h.1,Qk ze (fun _ _=>rfl) Qt h.2⟩
theorem Zif [Sig]:Xc prog BRd:=TS fun x hx=>by
 rcases List.mem_append.1 hx with h | h
 ·exact DX x h
 ·exact zU x h
theorem vG [Sig] {M:Nat->Mn} (hM:Sig.Q6=QL M) (hO:Sig.Xg=Kw M) {t:Tb} (ok:Zdm M t):Xc prog (BG t):=TS fun x hx=>by
 rcases List.mem_append.1 hx with h | h
 ·exact DX x h
 ·rcases List.mem_append.1 h with h | h
  ·exact zU x h
  ·exact Zkm hM hO ok x h
end Ev
namespace Ev
open Go Go.Proofs
theorem Uq [Sig] (h:Zid=true):∃ s1 ct s2 s3 b1 s4 s5,
  cR 9 [] ⟨.lf,0⟩ = .ok (.ptr 3 0) s1/\cR 25 [] s1 = .ok ct s2/\cR 12 [Zds,ct] s2 = .ok eT1 s3 /\
  cR 11 [eT1,vI 0,vI 1] s3 = .ok b1 s4/\cR 10 [.ptr 3 0,b1] s4 = .ok Up s5/\XK V2 (.ptr 3 0) s5=true:=by
 unfold Zid at h
 generalize cR=c at h ⊢
 obtain ⟨g,s1,k1,h⟩:=Jf h;obtain ⟨e1,h⟩:=Je h;have e1:=QP _ _ e1;subst e1;obtain ⟨ct,s2,k2,h⟩:=Jf h;obtain ⟨g,s3,k3,h⟩:=Jf h;obtain ⟨e1,h⟩:=Je h;have e1:=QP _ _ e1;subst e1;obtain ⟨b1,s4,k4,h⟩:=Jf h;obtain ⟨g,s5,k5,h⟩:=Jf h;obtain ⟨e1,h⟩:=Je h;have e1:=QP _ _ e1;subst e1;exact ⟨s1,ct,s2,s3,b1,s4,s5,k1,k2,k3,k4,k5,h⟩
theorem Ur [Sig] (h:preB=true):∃ s0 b s1 s2,cR 14 [txN,txV] V2.S = .ok eT2 s0/\cR 11 [eT2,vI 0,vI 2] s0 = .ok b s1/\cR 10 [.ptr 0 0,b] s1 = .ok Up s2/\XK V4 (.ptr 0 0) s2=true:=by
 unfold preB at h
 generalize cR=c at h ⊢
 obtain ⟨g,s0,k0,h⟩:=Jf h;obtain ⟨e1,h⟩:=Je h;have e1:=QP _ _ e1;subst e1;obtain ⟨b,s1,k1,h⟩:=Jf h;obtain ⟨g,s2,k2,h⟩:=Jf h;obtain ⟨e1,h⟩:=Je h;have e1:=QP _ _ e1;subst e1;exact ⟨s0,b,s1,s2,k0,k1,k2,h⟩
theorem Zba [Sig] {t:Tb} {V:Vd} {b:Bool} {rep:Zb} (h:Sr t V b rep=true):∃ e s1 y s2 s3,cG t 16 [.slice 33 0 1 none] (stU b) = .ok e s1 /\
  cG t 11 [e,vI 0,.sint .i64 (.ofNat 3) (.ofNat 1) (.ofNat 0)] s1 = .ok y s2/\cG t 10 [.ptr 0 0,y] s2 = .ok rep s3/\XK V (.ptr 0 0) s3=true:=by
 obtain ⟨e,s1,k1,h⟩:=Jf h;obtain ⟨y,s2,k2,h⟩:=Jf h;obtain ⟨g,s3,k3,h⟩:=Jf h;obtain ⟨e1,hv⟩:=Je h;rw [QP _ _ e1] at k3;exact ⟨e,s1,y,s2,s3,k1,k2,k3,hv⟩
theorem Zdv {v:Zb} {t:Nat} (h:isSet v t=true):∃ i,v = .tuple [.gho i t,.bool true]:=by
 unfold isSet at h;split at h
 ·exact ⟨_,by rw [Nat.eq_of_beq_eq_true h]⟩
 ·cases h
theorem Us (h:Zhg=true):∃ i s,cG tbE 19 [.ptr 0 0,txN] VU.S = .ok (.tuple [.gho i 2,.bool true]) s/\XK VB (.ptr 0 0) s=true:=by
 obtain ⟨g,s1,k1,h⟩:=Jf h;obtain ⟨e1,h⟩:=Je h;obtain ⟨i1,rfl⟩:=Zdv e1;exact ⟨i1,s1,k1,h⟩
end Ev
namespace Ev
open Go Go.Proofs Go.RowKit
def KnH (S:Sig) (s:St) (H T:Nat->Prop) (w:World) (L:List Zb) (U:List Value):Prop :=
 ∃ r,@Rel S r s w/\@VRs S r L U/\(∀ k,Hit r s k->H k)/\∀ k,Jz r k->T k
section
variable {S S':Sig} {s s':St} {H T H' T':Nat->Prop} {w w':World} {L L':List Zb} {U U':List Value} {u:Value}
theorem Kn.toH (h:Kn S s T w L U):KnH S s T T w L U:=by
 obtain ⟨r,h1,h2,h3⟩:=h;exact ⟨r,h1,h2,fun k hk=>h3 k (.inl hk),fun k hk=>h3 k (.inr hk)⟩
theorem KnH.to (h:KnH S s H T w L U):Kn S s (fun k=>H k\/T k) w L U:=by
 obtain ⟨r,h1,h2,h3,h4⟩:=h;exact ⟨r,h1,h2,fun k hk=>hk.imp (h3 k) (h4 k)⟩
theorem KnH.mono (h:KnH S s H T w L U) (hH:∀ k,H k->k<w.heap.size->H' k) (hT:∀ k,T k->k<w.heap.size->T' k):KnH S s H' T' w L U:=by
 obtain ⟨r,h1,h2,h3,h4⟩:=h;refine ⟨r,h1,h2,fun k hk=>hH k (h3 k hk) (@Rel.lt S _ _ _ h1 _ hk),fun k hk=>hT k (h4 k hk) ?_⟩;obtain ⟨i,x,g,h5,h6,h7,h8⟩:=hk;have:=(@Rel.safe S _ _ _ h1 i x g h5 h6).1;omega
theorem KnH.pick (h:KnH S s H T w L U) (hL:∀ r,@VRs S r L U->@VRs S r L' U'):KnH S s H T w L' U':=by
 obtain ⟨r,h1,h2,h3⟩:=h;exact ⟨r,h1,hL r h2,h3⟩
theorem KnH.Zf {C:Nat->Prop} (h:KnH S s H T w L U) (hc:Chg C w w') (hH:∀ k,H k->¬ C k) (hT:∀ k,T k->¬ C k):KnH S s H T w' L U:=by
 obtain ⟨r,⟨⟨h1,h2⟩,h3,h4,h5⟩,h6,h7,h8⟩:=h;refine ⟨r,@Rel.mk S _ _ _ (@RelB.mk S _ _ _ (fun i b x hb hx => ?_) h2) h3 h4 (fun i x g hx hg => ?_),h6,h7,h8⟩
 ·obtain ⟨o,k1,k2⟩:=h1 i b x hb hx;exact ⟨o,hc.heap k1 (hH _ (h7 _ ⟨i,b,x,hb,hx,rfl⟩)),k2⟩
 ·obtain ⟨k1,k2⟩:=h5 i x g hx hg;have hs:=hc.size;refine ⟨Nat.le_trans k1 hs,fun k hk hl=>⟨?_,(k2 k hk hl).2⟩⟩;rw [hc.block k (by omega) (hT k (h8 k ⟨i,x,g,hx,hg,hk,hl⟩))];exact (k2 k hk hl).1
theorem KnH.sig (hx:S'.x=S.x) (hy:S'.y=S.y) (ha:S'.arg=S.arg) (hm:∀ t F w v,S.Q6 t F w v->S'.Q6 t F w v) (ho:∀ t F w o,S.Xg t F w o->S'.Xg t F w o) (h:KnH S s H T w L U):KnH S' s H T w L U:=by
 obtain ⟨r,⟨⟨h1,h2⟩,h3,h4,h5⟩,h6,h7⟩:=h;refine ⟨r,@Rel.mk S' _ _ _ (@RelB.mk S' _ _ _ (fun i b x hb hx' => ?_) h2) h3 h4 h5,VRs.sig hx hy ha hm h6,h7⟩;obtain ⟨o,k1,k2⟩:=h1 i b x hb hx';exact ⟨o,k1,BR.sig hx hy ha hm ho k2⟩
theorem KnH.call {B:YI} {f:FuncId} {args:List Zb} {us:List Value} {v:Zb} (h:KnH S s H T w L U) (hB:@Xc S prog B) (aA:∀ f id,B.reg f id=none) (hcall:L6 prog B ME 1000000 200 f args s = .ok v s')
  (he:∀ us W,(callFunc f us).run prog W = .ok (.enter f us) W) (hargs:∀ r,@VRs S r L U->@VRs S r args us) :
  Calls prog f ⟨us⟩ w fun e w'=>∃ u,e = .returned u/\KnH S s' (fun k=>H k\/w.heap.size<=k) (fun k=>T k\/w.heap.size<=k) w' (v::L) (u::U)/\Chg H w w':=by
 obtain ⟨r,h1,h2,h3,h4⟩:=h;have hc:=@Wm S _ _ hB aA Qt ME 1000000 200 f args s v s' hcall r w us h1 (hargs r h2);rcases hc with ⟨u,w',h5,_⟩ | ⟨_,h5⟩
 ·rw [he] at h5;cases h5
 ·refine h5.mono ?_;rintro e w' ⟨u,rfl,q,hx,hu⟩;refine ⟨u,rfl,⟨q,@Ext.rel S _ _ _ _ _ _ hx,@VRs.cons S _ _ _ _ _ hu (@VRs.mono S _ _ (@Ext.le S _ _ _ _ _ _ hx) _ _ h2),fun k hk => ?_,fun k hk => ?_⟩,?_⟩
  ·exact (@Ext.XP S _ _ _ _ _ _ hx k hk).imp (h3 k) id
  ·exact (@Ext.Wd S _ _ _ _ _ _ hx k hk).imp (h4 k) id
  ·exact ⟨@Ext.os S _ _ _ _ _ _ hx,@Ext.tape S _ _ _ _ _ _ hx,@Ext.output S _ _ _ _ _ _ hx,@Ext.size S _ _ _ _ _ _ hx,fun k hk hn=>@Ext.frame S _ _ _ _ _ _ hx k hk fun hh=>hn (h3 k hh)⟩
theorem KnH.gho {t:Nat} {F:Nat->Prop} (h:KnH S s H T w L U) (h1:u.oneCell'=true) (h2:∀ b,u ≠ .bool b) (hF:∀ k,F k->¬ H k) (hm:S.Q6 t F w u):KnH S s.Vy H (fun k=>T k\/F k) w (.gho s.next t::L) (u::U):=by
 obtain ⟨r,k1,k2,k3,k4⟩:=h;obtain ⟨q,q1,q2,q3,q4,q5⟩:=@Hl S _ _ _ k1 u F t h1 h2 (fun k hk hh=>hF k hk (k3 k hh)) hm;refine ⟨q,q1,@VRs.cons S _ _ _ _ _ q3 (@VRs.mono S _ _ q2 _ _ k2),fun k hk=>k3 k (q4 k hk),fun k hk => ?_⟩;exact (q5 k hk).imp (k4 k) id
theorem KnH.blk {k e:Nat} {cs:List Zb} {vs:List Value} {t:TypeId} (h:KnH S s H T w L U) (hcs:∀ r,@VRs S r L U->@VRs S r cs vs) (ho:w.heap[k]? = some (.cells ⟨vs⟩ t (0,0))) (hH:¬ H k) (hT:¬ T k) (n:Nat) (he:n*e=vs.length) :
  KnH S (s.new (.cells cs e false)) (fun j=>H j\/j=k) T w (.slice s.next 0 n none::L) (.slice (some ⟨k,0,none⟩) n n::U):=by
 obtain ⟨r,k1,k2,k3,k4⟩:=h;obtain ⟨q,q1,q2,q3,q4,q5⟩:=@Hm S _ _ _ k1 k e cs vs t ho (hcs r k2) (fun hh=>hH (k3 k hh)) (fun hh=>hT (k4 k hh));refine ⟨q,q1,@VRs.cons S _ _ _ _ _ (@VR.slice S q s.next 0 n none _ n q3 (Nat.le_refl _) (fun _ h=>by cases h) (fun _=>by show 0+n*e=vs.length; omega)) (@VRs.mono S _ _ q2 _ _ k2),fun j hj => ?_,fun j hj=>k4 j (q5 j hj)⟩;exact (q4 j hj).imp (k3 j) id
theorem KnH.view {V:Vd} {v:Zb} (h:KnH S s H T w L U) (hv:∀ r,@VRs S r L U->@VR S r v u) (dW:XK V v s=true) (hz:V.z=true->S'.x=0) (hd:V.z=false->S'.x=S.x+V.d) (hk:S'.y=V.k)
  (jP:∀ a b,(a,b)∈V.tg->∀ F w v,S.Q6 a F w v->S'.Q6 b F w v) (hte:∀ b∈V.te,∀ w,S'.Q6 b (fun _=>False) w (.slice none 0 0)) (hto:∀ a b,(a,b)∈V.tg->∀ F w o,S.Xg a F w o->S'.Xg b F w o) (lu:∀ b∈V.tm,∀ w c,S'.Xg b (fun _=>False) w (.map #[] c)):KnH S' V.S H T w [.ptr 0 0] [u]:=by
 obtain ⟨r,k1,k2,k3,k4⟩:=h;obtain ⟨c1,dW⟩:=ZE (show sel _ (sel _ (sel _ _ false) false) false=true from dW);obtain ⟨c2,dW⟩:=ZE dW;obtain ⟨c3,c4⟩:=ZE dW;obtain ⟨o1,o2,o3,o4⟩:=Co (S:=S) (S':=S') k1 rfl rfl c1 c2 c3 hz hd hk (fun a b h=>jP a b (Yq h)) (fun b h=>hte b (Wr.1 h) w) (fun a b h=>hto a b (Yq h)) (fun b h=>lu b (Wr.1 h) w);exact ⟨_,o2,@VRs.cons S' _ _ _ _ _ (Si o1 _ _ _ c4 (hv r k2)) (@VRs.nil S' _),fun k hk=>k3 k (o3 k hk),fun k hk=>k4 k (o4 k hk)⟩
theorem KnH.rep {a b:Int} (h:KnH S s H T w (.agg [.int .i64 a,.int .i64 b,.str []]::L) (u::U)):u = .agg #[.int .i64 a,.int .i64 b,.string ⟨#[]⟩]:=h.to.rep
end
end Ev
namespace Ev
open Go Go.Proofs
theorem Zdw:Sr (tbU true) VU false Up=true:=by decide +kernel
end Ev
namespace Ev
open Go Go.Proofs
theorem Zdx:Sr (tbU false) VU true Up=true:=by decide +kernel
end Ev
namespace Ev
open Go Go.Proofs
theorem Zdy:Sr tbR VA true ZlH=true:=by decide +kernel
end Ev
namespace Ev
open Go Go.Proofs
theorem Zbb:Zhg=true:=by decide +kernel
end Ev
namespace Ev
open Go Go.Proofs Go.RowKit
noncomputable abbrev S1 (T:Zs) (x y:Int) (hx:0<=x/\x<=1000) (hy:0<=y/\y<=1000):Sig:=Zdr (cB T) rfl x y hx hy
noncomputable abbrev S2 (T:Zs) (b:Bool) (r:List Vl) (x y:Int) (hx:0<=x/\x<=1000) (hy:0<=y/\y<=1000):Sig:=Zdr (cM T b r) rfl x y hx hy
theorem KnH.lift {S:Sig} {s:St} {H T H1 T1:Nat->Prop} {w w':World} {L:List Zb} {U:List Value} (h:KnH S s (fun k=>H k\/w.heap.size<=k) (fun k=>T k\/w.heap.size<=k) w' L U) (hH:∀ k,H k->H1 k) (hT:∀ k,T k->T1 k) (hH1:∀ k,w.heap.size<=k->H1 k) (hT1:∀ k,w.heap.size<=k->T1 k):KnH S s H1 T1 w' L U :=
 h.mono (fun k hk _=>hk.elim (hH k) (hH1 k)) fun k hk _=>hk.elim (hT k) (hT1 k)
theorem Hs {S S':Sig} {t:Tb} (hB:@Xc S prog (BG t)) {V:Vd} {rep:Zb} {rem:Bool} {g ch:Value} {w1 w2:World} {H T H1 T1:Nat->Prop} {row:Value}
  (dW:Sr t V rem rep=true) (K:KnH S (stU rem) H T w2 [.slice 33 0 1 none,.gho 32 8,.ptr 0 0] [ch,row,g]) (hH:∀ k,H k->H1 k) (hT:∀ k,T k->T1 k) (hH1:∀ k,w2.heap.size<=k->H1 k) (hT1:∀ k,w2.heap.size<=k->T1 k) (hc:Chg (fun _=>False) w1 w2)
  {q:Int} (hq:q=3+S.x) (hz:V.z=false) (hd:S'.x=S.x+V.d) (hk:S'.y=V.k)
  (jP:∀ a b,(a,b)∈V.tg->(∀ F w v,S.Q6 a F w v->S'.Q6 b F w v)/\(∀ F w o,S.Xg a F w o->S'.Xg b F w o)) (hte:V.te=[]) (lu:V.tm=[]) {ra rb:Int} (hrep:rep = .agg [.int .i64 ra,.int .i64 rb,.str []]) :
  Ss w1 w2 g ch 0 q fun v w'=>v = .agg #[.int .i64 ra,.int .i64 rb,.string ⟨#[]⟩]/\KnH S' V.S H1 T1 w' [.ptr 0 0] [g]/\Chg H1 w1 w':=by
 obtain ⟨e,s1,y,s2,s3,c1,c2,c3,hv⟩:=@Zba S _ _ _ _ dW;subst hrep;refine ⟨fun v w'=>KnH S s1 H1 T1 w' [e,.ptr 0 0] [v,g]/\Chg H1 w1 w'/\w2.heap.size<=w'.heap.size,fun v w'=>KnH S s2 H1 T1 w' [y,.ptr 0 0] [v,g]/\Chg H1 w1 w'/\w2.heap.size<=w'.heap.size,?_,?_,?_⟩
 ·refine (K.call hB (fun _ _=>rfl) c1 (fun us W=>call16 us W) (us:=[ch]) (fun r h=>vc (vh h) vn)).mono ?_;rintro _ w' ⟨v,rfl,K',h'⟩;exact ⟨v,rfl,(K'.lift hH hT hH1 hT1).pick fun r h=>vc (vh h) (vc (vh (vt (vt (vt h)))) vn),(((Chg.refl H1 w1).trans hc fun _ _ h=>h.elim).trans h' fun i hi hk=>hH i hk),h'.size⟩
 ·rintro v w' ⟨K',h',hs⟩;refine (K'.call hB (fun _ _=>rfl) c2 (fun us W=>call11 us W) (us:=[v,.int .i64 0,.int .i64 q]) (fun r h=>vc (vh h) (vc vi (vc (@VR.sint S r .i64 (.ofNat 3) (.ofNat 1) (.ofNat 0) q (by rw [hq]; show 3+S.x=3+1*S.x+0*S.y; omega)) vn)))).mono ?_;rintro _ w3 ⟨v2,rfl,K2,h2⟩;exact ⟨v2,rfl,(K2.lift (fun _ h=>h) (fun _ h=>h) (fun k hk=>hH1 k (Nat.le_trans hs hk)) fun k hk=>hT1 k (Nat.le_trans hs hk)).pick fun r h=>vc (vh h) (vc (vh (vt (vt h))) vn),h'.trans h2 fun i hi hk=>hk,Nat.le_trans hs h2.size⟩
 ·rintro v w' ⟨K',h',hs⟩;refine (K'.call hB (fun _ _=>rfl) c3 (fun us W=>call10 us W) (us:=[g,v]) (fun r h=>vc (vh (vt h)) (vc (vh h) vn))).mono ?_;rintro _ w3 ⟨v2,rfl,K2,h2⟩;have K3:=K2.lift (fun _ h=>h) (fun _ h=>h) (fun k hk=>hH1 k (Nat.le_trans hs hk)) fun k hk=>hT1 k (Nat.le_trans hs hk);exact ⟨v2,rfl,K3.rep,K3.view (fun r h=>vh (vt (vt h))) hv (fun h=>by rw [hz] at h; cases h) (fun _=>hd) hk (fun a b h=>(jP a b h).1) (fun b hb=>by rw [hte] at hb; cases hb) (fun a b h=>(jP a b h).2) (fun b hb=>by rw [lu] at hb; cases hb),h'.trans h2 fun i hi hk=>hk⟩
def PF:ByteArray:=⟨#[116]⟩
theorem Zig {S:Sig} {r:Rho}:@VR S r Zds (.string PF):=@VR.str S r [116]
def rE (n:Int):Value := .agg #[.int .i64 n,.int .i64 0,.string ⟨#[]⟩]
def VE (H Tf:Nat->Prop) (g:Value) (n:Nat) (T:Zs) (w':World):Prop :=
 ∃ hx hy,Cv n T/\KnH (S1 T n 0 hx hy) VU.S H Tf w' [.ptr 0 0] [g]
def Rf (H Tf:Nat->Prop) (g:Value) (n:Nat) (T:Zs) (w':World):Prop :=
 ∃ y hx hy,Cv n T/\KnH (S1 T n y hx hy) VA.S H Tf w' [.ptr 0 0] [g]
def Zkt (H Tf:Nat->Prop) (g:Value) (k:Nat) (T:Zs) (rem:Bool) (row:List Vl) (v:Value) (w':World):Prop :=
 v=rE 0/\(rem=true->1<=nf T row)/\VE H Tf g (k+1) (Qi row (sd !rem) T) w'\/v=rE 25/\Rf H Tf g (k+1) T w'
theorem Ss.mono {w0 w2:World} {g ch:Value} {c q:Int} {R R':Value->World->Prop} (h:Ss w0 w2 g ch c q R) (hR:∀ v w,R v w->R' v w):Ss w0 w2 g ch c q R':=by
 obtain ⟨P1,P2,p1,p2,p3⟩:=h;exact ⟨P1,P2,p1,p2,fun v w' h=>(p3 v w' h).mono fun e w'' ⟨v',e1,h1⟩=>⟨v',e1,hR _ _ h1⟩⟩
theorem Zku {T:Zs} {k:Nat} {y:Int} {hx:0<=(k:Int)/\(k:Int)<=1000} {hy:0<=y/\y<=1000} {H Tf:Nat->Prop} {wr w1:World} {g:Value} {rb len:Nat} {row:List Vl} {rem:Bool}
  (hi:Cv k T) (hk:k+1<=40) (K:KnH (S1 T k y hx hy) VA.S H Tf wr [.ptr 0 0] [g]) (hc:Chg (fun _=>False) wr w1) (hrow:Zj (fun b=>b=rb) w1 (.slice (some ⟨rb,0,none⟩) len len) row) (hrb:wr.heap.size<=rb) (hlt:rb<w1.heap.size)
  (fq:Lt row) :
  Ss w1 (w1.alloc (.cells #[.string PF,.slice (some ⟨rb,0,none⟩) len len,.bool rem] 41)) g (.slice (some ⟨w1.heap.size,0,none⟩) 1 1) 0 (3+(k:Int)) fun v w' =>
   Zkt (fun j=>H j/\j<wr.heap.size\/w1.heap.size<=j) (fun j=>Tf j/\j<wr.heap.size\/j=rb\/w1.heap.size<=j) g k T rem row v w'/\Chg (fun j=>H j/\j<wr.heap.size) w1 w':=by
 have hx1:0<=(k:Int)+1/\(k:Int)+1<=1000:=by omega
 have hrr:=fq.right.1;have hsz1:=hc.size
 have ready:∀ b:Bool,KnH (S2 T b row k y hx hy) (stU rem) (fun j=>(H j/\j<wr.heap.size)\/j=w1.heap.size) (fun j=>(Tf j/\j<wr.heap.size)\/j=rb) (w1.alloc (.cells #[.string PF,.slice (some ⟨rb,0,none⟩) len len,.bool rem] 41))
   [.slice 33 0 1 none,.gho 32 8,.ptr 0 0] [.slice (some ⟨w1.heap.size,0,none⟩) 1 1,.slice (some ⟨rb,0,none⟩) len len,g]:=fun b=>by
  have Ka:KnH (S2 T b row k y hx hy) VA.S H Tf wr [.ptr 0 0] [g]:=KnH.sig (S:=S1 T k y hx hy) (S':=S2 T b row k y hx hy) rfl rfl rfl (ZlI T b row) (Zkp T b row) K;have Kb:=(Ka.mono (H':=fun j=>H j/\j<wr.heap.size) (T':=fun j=>Tf j/\j<wr.heap.size) (fun j hj hl=>⟨hj,hl⟩) fun j hj hl=>⟨hj,hl⟩).Zf hc (fun _ _ h=>h) fun _ _ h=>h;have Kc:=Kb.gho (t:=8) (u := .slice (some ⟨rb,0,none⟩) len len) (F:=fun b=>b=rb) rfl (fun b h=>by cases h) (fun j hj hT=>by have:=hT.2; omega) ⟨hrr,hrow⟩;have Kd:=Kc.Zf ((Chg.refl (fun _=>False) w1).alloc (.cells #[.string PF,.slice (some ⟨rb,0,none⟩) len len,.bool rem] 41)) (fun _ _ h=>h) fun _ _ h=>h;exact Kd.blk (k:=w1.heap.size) (e:=3) (cs:=[Zds,.gho 32 8,.bool rem]) (vs:=[.string PF,.slice (some ⟨rb,0,none⟩) len len,.bool rem]) (fun r h=>vc Zig (vc (vh h) (vc vb vn))) (heap_alloc_new w1 _) (fun h=>by have:=h.2; omega) (fun h=>by rcases h with h | h; have:=h.2; omega; omega) 1 rfl
 have esz:(w1.alloc (.cells #[.string PF,.slice (some ⟨rb,0,none⟩) len len,.bool rem] 41)).heap.size=w1.heap.size+1:=Array.size_push _;have hcw:Chg (fun _=>False) w1 (w1.alloc (.cells #[.string PF,.slice (some ⟨rb,0,none⟩) len len,.bool rem] 41)):=(Chg.refl _ w1).alloc _;have sH:∀ j,((H j/\j<wr.heap.size)\/j=w1.heap.size)->(H j/\j<wr.heap.size\/w1.heap.size<=j):=fun j hj=>hj.imp id fun h=>Nat.le_of_eq h.symm;have sT:∀ j,((Tf j/\j<wr.heap.size)\/j=rb)->(Tf j/\j<wr.heap.size\/j=rb\/w1.heap.size<=j):=fun j hj=>hj.imp id Or.inl;have zV:∀ j,(w1.alloc (.cells #[.string PF,.slice (some ⟨rb,0,none⟩) len len,.bool rem] 41)).heap.size<=j->(H j/\j<wr.heap.size\/w1.heap.size<=j):=fun j hj => .inr (by rw [esz] at hj; omega);have zW:∀ j,(w1.alloc (.cells #[.string PF,.slice (some ⟨rb,0,none⟩) len len,.bool rem] 41)).heap.size<=j->(Tf j/\j<wr.heap.size\/j=rb\/w1.heap.size<=j):=fun j hj => .inr (.inr (by rw [esz] at hj; omega));have fin:∀ w',Chg (fun j=>H j/\j<wr.heap.size\/w1.heap.size<=j) w1 w'->Chg (fun j=>H j/\j<wr.heap.size) w1 w':=fun w' h=>(Chg.refl _ w1).trans h fun i hi hk=>hk.elim id fun h=>absurd h (by omega)
 have done:∀ (b:Bool),(!rem)=b->(b=false->1<=nf T row)->Sr (tbU b) VU rem Up=true ->
   Ss w1 (w1.alloc (.cells #[.string PF,.slice (some ⟨rb,0,none⟩) len len,.bool rem] 41)) g (.slice (some ⟨w1.heap.size,0,none⟩) 1 1) 0 (3+(k:Int)) fun v w' =>
    Zkt (fun j=>H j/\j<wr.heap.size\/w1.heap.size<=j) (fun j=>Tf j/\j<wr.heap.size\/j=rb\/w1.heap.size<=j) g k T rem row v w'/\Chg (fun j=>H j/\j<wr.heap.size) w1 w':=fun b hrb hb dW=>by
  have hB:=@vG (S2 T b row k y hx hy) (cM T b row) rfl rfl (tbU b) (Zkr hk hi fq hb);have hinv:=hi.step X8 fq hb
  refine (Hs (S':=S1 (Qi row (sd b) T) ((k:Int)+1) 0 hx1 (by decide)) hB dW (ready b) sH sT zV zW hcw (q:=3+(k:Int)) rfl rfl rfl rfl (fun a c hac=>by
   have hac:(a,c)∈[(9,1),(10,2),(11,3)]:=hac;simp only [List.mem_cons,List.not_mem_nil,or_false,Prod.mk.injEq] at hac
   rcases hac with ⟨rfl,rfl⟩ | ⟨rfl,rfl⟩ | ⟨rfl,rfl⟩ <;> exact ⟨fun _ _ _ h=>h,fun _ _ _ h=>h⟩) rfl rfl (ra:=0) (rb:=0) rfl).mono ?_
  rintro v w' ⟨e1,h2,h3⟩;refine ⟨.inl ⟨e1,fun hr=>hb (by rw [<- hrb,hr]; rfl),hx1,by decide,?_⟩,fin w' h3⟩;rw [hrb];exact ⟨hinv,h2⟩
 by_cases jh:rem=false
 ·subst jh;exact done true rfl (fun h=>by cases h) Zdw
 ·have jh:rem=true:=by simpa using jh
  subst jh;by_cases hth:1<=nf T row
  ·exact done false rfl (fun _=>hth) Zdx
  ·have hno:nf T row=0:=by
    have:0<=nf T row:=Uf hi.pos row;omega
   have hB:=@vG (S2 T true row k y hx hy) (cM T true row) rfl rfl tbR (Zkq hk hi fq hno)
   refine (Hs (S':=S1 T ((k:Int)+1) 25 hx1 (by decide)) hB Zdy (ready true) sH sT zV zW hcw (q:=3+(k:Int)) rfl rfl rfl rfl (fun a c hac=>by
    have hac:(a,c)∈[(1,1),(2,2),(3,3)]:=hac;simp only [List.mem_cons,List.not_mem_nil,or_false,Prod.mk.injEq] at hac
    rcases hac with ⟨rfl,rfl⟩ | ⟨rfl,rfl⟩ | ⟨rfl,rfl⟩ <;> exact ⟨fun _ _ _ h=>h,fun _ _ _ h=>h⟩) rfl rfl (ra:=25) (rb:=0) rfl).mono ?_
   rintro v w' ⟨e1,h2,h3⟩;exact ⟨.inr ⟨e1,25,hx1,by decide,hi.mono (Nat.le_succ k),h2⟩,fin w' h3⟩
theorem zX {T:Zs} {k:Nat} {H Tf:Nat->Prop} {w:World} {g:Value} (hk:k<=40) (h:VE H Tf g k T w) :
  Calls prog 19 #[g,.string ⟨#[118]⟩] w fun e w'=>∃ sv,e = .returned (.tuple #[sv,.bool true])/\Zo (fun _=>True) w' sv (Zl (cO T))/\Rf (fun k=>H k\/w.heap.size<=k) (fun k=>Tf k\/w.heap.size<=k) g k T w'/\Chg H w w':=by
 obtain ⟨hx,hy,hi,K⟩:=h;obtain ⟨i,s,c1,v1⟩:=Us Zbb;have hB:=@vG (S1 T k 0 hx hy) (cB T) rfl rfl tbE (Zks hk hi);refine (K.call hB (fun _ _=>rfl) c1 (fun us W=>call19 us W) (us:=[g,.string ⟨⟨[118]⟩⟩]) (fun r h=>vc (vh h) (vc vs vn))).mono ?_;rintro _ w' ⟨u,rfl,K',h'⟩;obtain ⟨sv,rfl,hs1,hs2⟩:=K'.to.tup (M:=cB T) rfl (A:=cO T) rfl;refine ⟨sv,rfl,hs2.mono fun _ _ _=>trivial,⟨0,hx,hy,hi,?_⟩,h'⟩
 exact K'.view (S':=S1 T k 0 hx hy) (V:=VB) (fun r h=>vh (vt h)) v1 (fun h=>by cases h) (fun _=>by show (k:Int)=(k:Int)+0; omega) rfl (fun a c hac=>by
  have hac:(a,c)∈[(1,1),(2,2),(3,3)]:=hac;simp only [List.mem_cons,List.not_mem_nil,or_false,Prod.mk.injEq] at hac;rcases hac with ⟨rfl,rfl⟩ | ⟨rfl,rfl⟩ | ⟨rfl,rfl⟩ <;> exact fun _ _ _ h=>h) (fun b hb=>by cases hb) (fun a c hac=>by
  have hac:(a,c)∈[(1,1),(2,2),(3,3)]:=hac;simp only [List.mem_cons,List.not_mem_nil,or_false,Prod.mk.injEq] at hac
  rcases hac with ⟨rfl,rfl⟩ | ⟨rfl,rfl⟩ | ⟨rfl,rfl⟩ <;> exact fun _ _ _ h=>h) (fun b hb=>by cases hb)
end Ev
section
open Go Go.RowKit
structure Bag (T:Zs) (rows:List (List Vl)):Prop where
 cnt:∀ r,nf T r=(rows.count r:Int)
 len:Zq (Zl T)=(rows.length:Int)
theorem VF (x:List Vl) (n:Int):∀ S:Zs,Zq (Zl (Qi x n S))=Zq (Zl S)+n
 | []=>by
  rw [Qi];have h1:Zq (Zl [(x,n)])=(ZA (x,n)).net+0:=rfl;rw [h1,Wo];show n+0=0+n;omega
 | p::S=>by
  have hc:∀ (q:List Vl×Int) (R:Zs),Zq (Zl (q::R))=q.2+Zq (Zl R):=fun q R=>by
   have h1:Zq (Zl (q::R))=(ZA q).net+Zq (Zl R):=rfl;rw [h1,Wo]
  rw [Qi];split
  ·rw [hc,hc]; simp only; omega
  ·split
   ·split
    ·rw [hc]; omega
    ·rw [hc,hc]; simp only; omega
   ·rw [hc,hc,VF x n S]; omega
theorem Bag.nil:Bag [] []:=⟨fun r=>by simp [nf],rfl⟩
theorem Bag.add {T:Zs} {rows:List (List Vl)} (h:Bag T rows) (x:List Vl):Bag (Qi x 1 T) (rows++[x]) where
 cnt:=fun r=>by
  rw [Xh,h.cnt,List.count_append,List.count_singleton];by_cases e:x=r <;> simp [e]
 len:=by rw [VF,h.len,List.length_append]; simp
theorem Bag.del {T:Zs} {a b:List (List Vl)} {x:List Vl} (h:Bag T (a++x::b)):Bag (Qi x (-1) T) (a++b) where
 cnt:=fun r=>by
  rw [Xh,h.cnt,List.count_append,List.count_append,List.count_cons];by_cases e:x=r <;> simp [e] <;> omega
 len:=by rw [VF,h.len]; simp; omega
theorem Bag.mem {T:Zs} {rows:List (List Vl)} (h:Bag T rows) (hz:ZP T) {r:List Vl}:r∈rows↔∃ p∈T,p.1=r:=by
 rw [<- List.count_pos_iff];have h1:=h.cnt r;constructor
 ·intro h2;by_cases h3:∃ p∈T,p.1=r
  ·exact h3
  ·have:=T6 fun p hp e=>h3 ⟨p,hp,e⟩;omega
 ·rintro ⟨p,hp,rfl⟩;have h2:=hz.Fc hp;have h3:=hz.net p hp;omega
theorem Bag.empty {T:Zs} {rows:List (List Vl)} (h:Bag T rows) (hz:ZP T):rows=[]↔T=[]:=by
 constructor
 ·intro e;subst e;refine List.eq_nil_iff_forall_not_mem.2 fun p hp => ?_;have:=(h.mem hz).2 ⟨p,hp,rfl⟩;cases this
 ·intro e;subst e;refine List.eq_nil_iff_forall_not_mem.2 fun r hr => ?_;obtain ⟨p,hp,_⟩:=(h.mem hz).1 hr;cases hp
def X0 (b:List UInt8) (l:List (List UInt8)):List UInt8:=l.foldl (fun b s=>if s<b then s else b) b
def X9 (b:List UInt8) (l:List (List UInt8)):List UInt8:=l.foldl (fun b s=>if b<s then s else b) b
theorem Wu:∀ (l:List (List UInt8)) (b:List UInt8),X0 b l∈b::l/\∀ s∈b::l,¬ s<X0 b l
 | [],b=>⟨List.mem_cons_self,fun s hs=>by rw [List.mem_singleton.1 hs]; exact List.lt_irrefl b⟩
 | x::l,b=>by
  have e:X0 b (x::l)=X0 (if x<b then x else b) l:=rfl;rw [e];obtain ⟨h1,h2⟩:=Wu l (if x<b then x else b);by_cases hx:x<b
  ·rw [if_pos hx] at h1 h2 ⊢;refine ⟨List.mem_cons_of_mem _ h1,fun s hs => ?_⟩;rcases List.mem_cons.1 hs with rfl | hs
   ·exact fun h3=>h2 x List.mem_cons_self (List.lt_trans hx h3)
   ·exact h2 s hs
  ·rw [if_neg hx] at h1 h2 ⊢;refine ⟨?_,fun s hs => ?_⟩
   ·rcases List.mem_cons.1 h1 with h1 | h1
    ·rw [h1]; exact List.mem_cons_self
    ·exact List.mem_cons_of_mem _ (List.mem_cons_of_mem _ h1)
   ·rcases List.mem_cons.1 hs with rfl | hs
    ·exact h2 s List.mem_cons_self
    ·rcases List.mem_cons.1 hs with rfl | hs
     ·intro h3;by_cases h4:X0 b l=b
      ·rw [h4] at h3; exact hx h3
      ·by_cases h5:b<s
       ·exact h2 b List.mem_cons_self (List.lt_trans h5 h3)
       ·have h6:b=s:=List.le_antisymm (List.not_lt.1 hx) (List.not_lt.1 h5);exact h2 b List.mem_cons_self (h6▸h3)
     ·exact h2 s (List.mem_cons_of_mem _ hs)
theorem Wv:∀ (l:List (List UInt8)) (b:List UInt8),X9 b l∈b::l/\∀ s∈b::l,¬ X9 b l<s
 | [],b=>⟨List.mem_cons_self,fun s hs=>by rw [List.mem_singleton.1 hs]; exact List.lt_irrefl b⟩
 | x::l,b=>by
  have e:X9 b (x::l)=X9 (if b<x then x else b) l:=rfl;rw [e];obtain ⟨h1,h2⟩:=Wv l (if b<x then x else b);by_cases hx:b<x
  ·rw [if_pos hx] at h1 h2 ⊢;refine ⟨List.mem_cons_of_mem _ h1,fun s hs => ?_⟩;rcases List.mem_cons.1 hs with rfl | hs
   ·exact fun h3=>h2 x List.mem_cons_self (List.lt_trans h3 hx)
   ·exact h2 s hs
  ·rw [if_neg hx] at h1 h2 ⊢;refine ⟨?_,fun s hs => ?_⟩
   ·rcases List.mem_cons.1 h1 with h1 | h1
    ·rw [h1]; exact List.mem_cons_self
    ·exact List.mem_cons_of_mem _ (List.mem_cons_of_mem _ h1)
   ·rcases List.mem_cons.1 hs with rfl | hs
    ·exact h2 s List.mem_cons_self
    ·rcases List.mem_cons.1 hs with rfl | hs
     ·intro h3;by_cases h5:s<b
      ·exact h2 b List.mem_cons_self (List.lt_trans h3 h5)
      ·have h6:b=s:=List.le_antisymm (List.not_lt.1 h5) (List.not_lt.1 hx);exact h2 b List.mem_cons_self (h6▸h3)
     ·exact h2 s (List.mem_cons_of_mem _ hs)
theorem Zbc {b b':List UInt8} {l l':List (List UInt8)} (h:∀ s,s∈b::l↔s∈b'::l'):X0 b l=X0 b' l':=by
 obtain ⟨h1,h2⟩:=Wu l b;obtain ⟨h3,h4⟩:=Wu l' b';exact List.le_antisymm (List.not_lt.1 (h2 _ ((h _).2 h3))) (List.not_lt.1 (h4 _ ((h _).1 h1)))
theorem Zbd {b b':List UInt8} {l l':List (List UInt8)} (h:∀ s,s∈b::l↔s∈b'::l'):X9 b l=X9 b' l':=by
 obtain ⟨h1,h2⟩:=Wv l b;obtain ⟨h3,h4⟩:=Wv l' b';exact List.le_antisymm (List.not_lt.1 (h4 _ ((h _).1 h1))) (List.not_lt.1 (h2 _ ((h _).2 h3)))
def ZF (r:List Vl):List UInt8:=(r[2]?.getD (⟨0,0,[]⟩:Vl)).s
def vT (s:List UInt8):Vl:=⟨2,0,s⟩
theorem EL {a b:List UInt8} (ha:a.length<=2) (hb:b.length<=2):(vT a).less (vT b)=decide (a<b):=by
 have hr:∀ {c:List UInt8},c.length<=2->(vT c).right=true:=fun {c} hc=>by
  show (if (2:Int)=1 then _ else if (2:Int)=2 then decide ((0:Int)=0) && decide (c.length<=40) else false)=true;have:c.length<=40:=by omega
  simp [this]
 have r1:=hr ha;have r2:=hr hb;unfold Vl.less;rw [r1,r2,Bool.true_and,if_pos rfl];show (if (2:Int)=2 then (if (2:Int)=1 then _ else Op.bytesLess a b) else _)=_;rw [if_pos rfl,if_neg (by decide),Go.Proofs.bytesLess_eq]
theorem Fl:∀ (l:List (List UInt8)) (b:List UInt8),b.length<=2->(∀ s∈l,s.length<=2)->(l.map vT).foldl (fun b v=>if Vl.less v b then v else b) (vT b)=vT (X0 b l)
 | [],b,_,_=>rfl
 | x::l,b,hb,h=>by
  have hx:=h x List.mem_cons_self;rw [List.map_cons,List.foldl_cons,EL hx hb];by_cases e:x<b
  ·rw [decide_eq_true e,if_pos rfl,Fl l x hx fun s hs=>h s (List.mem_cons_of_mem _ hs)];unfold X0;rw [List.foldl_cons,if_pos e]
  ·rw [decide_eq_false e,if_neg (by decide),Fl l b hb fun s hs=>h s (List.mem_cons_of_mem _ hs)];unfold X0;rw [List.foldl_cons,if_neg e]
theorem Fm:∀ (l:List (List UInt8)) (b:List UInt8),b.length<=2->(∀ s∈l,s.length<=2)->(l.map vT).foldl (fun b v=>if Vl.more v b then v else b) (vT b)=vT (X9 b l)
 | [],b,_,_=>rfl
 | x::l,b,hb,h=>by
  have hx:=h x List.mem_cons_self;have em:Vl.more (vT x) (vT b)=decide (b<x):=EL hb hx;rw [List.map_cons,List.foldl_cons,em];by_cases e:b<x
  ·rw [decide_eq_true e,if_pos rfl,Fm l x hx fun s hs=>h s (List.mem_cons_of_mem _ hs)];unfold X9;rw [List.foldl_cons,if_pos e]
  ·rw [decide_eq_false e,if_neg (by decide),Fm l b hb fun s hs=>h s (List.mem_cons_of_mem _ hs)];unfold X9;rw [List.foldl_cons,if_neg e]
theorem Kz {r:List Vl} (h:Lt r):r[2]?.getD ⟨0,0,[]⟩=vT (ZF r)/\(ZF r).length<=2:=by
 obtain ⟨n,m,s,rfl,h1,h2,h3⟩:=h;exact ⟨rfl,h3⟩
theorem ZfF {T:Zs} (h:∀ p∈T,Lt p.1):Qr 2 (Zl T)=(T.map fun p=>ZF p.1).map vT:=by
 induction T with
 | nil=>rfl
 | cons p T ih =>
  have h1:Qr 2 (Zl (p::T))=(p.1[2]?.getD ⟨0,0,[]⟩)::Qr 2 (Zl T):=rfl;rw [h1,ih fun q hq=>h q (List.mem_cons_of_mem _ hq),(Kz (h p List.mem_cons_self)).1];rfl
theorem Zbe {T:Zs} (h:T≠[]):QZ Ev.kfK T=[nmR Ev.kfK []]:=by
 unfold QZ;have e:∀ U:Zs,(U.map fun p=>nmR Ev.kfK p.1)=U.map fun _=>nmR Ev.kfK []:=fun U=>rfl;rw [e]
 have key:∀ (U:Zs) (n:List UInt8),U≠[]->PE (U.map fun _=>n)=[n]:=by
  intro U n
  induction U with
  | nil=>intro h; exact absurd rfl h
  | cons q U ih =>
   intro _;rw [List.map_cons,PE];by_cases hU:U=[]
   ·subst hU; rfl
   ·rw [ih hU,if_pos];obtain ⟨z,hz⟩:=List.exists_mem_of_ne_nil _ hU;exact List.mem_map.2 ⟨z,hz,rfl⟩
 exact key T _ h
def VG (n:Int) (a b:List UInt8):List Vl:=[⟨1,n,[]⟩,vT a,vT b]
theorem EM {k:Nat} {T:Zs} {rows:List (List Vl)} (hi:Cv k T) (hb:Bag T rows) {r0:List Vl} {rest:List (List Vl)} (hr:rows=r0::rest) :
  cO T=[(VG rows.length (X0 (ZF r0) (rows.map ZF)) (X9 (ZF r0) (rows.map ZF)),1)]:=by
 have hne:T≠[]:=fun e=>by
  have:=(hb.empty hi.t.set).2 e;rw [hr] at this;cases this
 have hg:Qf Ev.kfK T (nmR Ev.kfK [])=T:=by
  unfold Qf;exact List.filter_eq_self.2 fun p hp=>decide_eq_true rfl
 obtain ⟨p,T',rfl⟩:∃ p T',T=p::T':=by
  cases T with
  | nil=>exact absurd rfl hne
  | cons p T'=>exact ⟨p,T',rfl⟩
 have hm:∀ s,s∈ZF p.1::(T'.map fun p=>ZF p.1)↔s∈ZF r0::rows.map ZF:=fun s=>by
  have h1:s∈ZF p.1::(T'.map fun p=>ZF p.1)↔∃ q∈p::T',ZF q.1=s:=by
   rw [<- List.map_cons (f:=fun p:List Vl×Int=>ZF p.1),List.mem_map]
  rw [h1];constructor
  ·rintro ⟨q,hq,rfl⟩;exact List.mem_cons_of_mem _ (List.mem_map.2 ⟨q.1,(hb.mem hi.t.set).2 ⟨q,hq,rfl⟩,rfl⟩)
  ·intro h2
   have h3:∃ r∈rows,ZF r=s:=by
    rcases List.mem_cons.1 h2 with rfl | h2
    ·exact ⟨r0,by rw [hr]; exact List.mem_cons_self,rfl⟩
    ·exact List.mem_map.1 h2
   obtain ⟨r,h4,rfl⟩:=h3;obtain ⟨q,hq,e⟩:=(hb.mem hi.t.set).1 h4;exact ⟨q,hq,by rw [e]⟩
 have hl:∀ s∈T'.map (fun p=>ZF p.1),s.length<=2:=fun s hs=>by
  obtain ⟨q,hq,rfl⟩:=List.mem_map.1 hs;exact (Kz (hi.row q (List.mem_cons_of_mem _ hq))).2
 have hp2:=(Kz (hi.row p List.mem_cons_self)).2;have dV:=ZfF hi.row;rw [List.map_cons,List.map_cons] at dV
 have e1:bst Vl.less (Qr 2 (Zl (p::T')))=vT (X0 (ZF r0) (rows.map ZF)):=by
  rw [dV,<- Zbc hm];exact Fl _ _ hp2 hl
 have e2:bst Vl.more (Qr 2 (Zl (p::T')))=vT (X9 (ZF r0) (rows.map ZF)):=by
  rw [dV,<- Zbd hm];exact Fm _ _ hp2 hl
 have ht:Qo Ev.kfK cfs (p::T') (nmR Ev.kfK [])=VG rows.length (X0 (ZF r0) (rows.map ZF)) (X9 (ZF r0) (rows.map ZF)):=by
  unfold Qo;rw [hg];show [Xv (WQ,0) (Zl (p::T')),Xv (TZ,2) (Zl (p::T')),Xv (S9,2) (Zl (p::T'))]=_;have a1:Xv (WQ,0) (Zl (p::T'))=⟨1,Zq (Zl (p::T')),[]⟩:=if_pos rfl
  have a2:Xv (TZ,2) (Zl (p::T'))=bst Vl.less (Qr 2 (Zl (p::T'))):=by
   unfold Xv;rw [if_neg (by decide),if_neg (by decide),if_pos rfl]
  have a3:Xv (S9,2) (Zl (p::T'))=bst Vl.more (Qr 2 (Zl (p::T'))):=by
   unfold Xv;rw [if_neg (by decide),if_neg (by decide),if_neg (by decide)]
  rw [a1,a2,a3,e1,e2,hb.len];rfl
 show WU Ev.kfK cfs (p::T')=_;unfold WU;rw [Zbe hne,List.foldl_cons,List.foldl_nil,ht,Qi]
end
namespace Ev
open Go Go.Proofs
theorem ZdA:Zid=true:=by decide +kernel
end Ev
namespace Ev
open Go Go.Proofs
theorem ZdB:preB=true:=by decide +kernel
end Ev
section
open Go.RowKit
theorem Zih (s:ByteArray):s=str s.data.toList:=by cases s; rfl
theorem Su (n:Int) (w:World):Calls prog 27 #[.int .i64 n] w fun e w'=>e = .returned (.agg #[.int .i64 1,.int .i64 n,.string ⟨#[]⟩])/\Chg (fun _=>False) w w':=by
 go_enter func27,ntmps27
 go_wp2_with fail
 refine bodyPost_ret (v := .agg #[.int .i64 1,.int .i64 n,.string ⟨#[]⟩]) ?_ rfl ?_
 ·simp only [results,show Tryz.f27.results = #[.cell 2 55] from rfl];go_simp
 ·exact ⟨rfl,(Chg.refl _ w).alloc _⟩
theorem Ww (s:ByteArray) (w:World):Calls prog 28 #[.string s] w fun e w'=>e = .returned (.agg #[.int .i64 2,.int .i64 0,.string s])/\Chg (fun _=>False) w w':=by
 go_enter func28,ntmps28
 go_wp2_with fail
 refine bodyPost_ret (v := .agg #[.int .i64 2,.int .i64 0,.string s]) ?_ rfl ?_
 ·simp only [results,show Tryz.f28.results = #[.cell 2 55] from rfl];go_simp
 ·exact ⟨rfl,(Chg.refl _ w).alloc _⟩
def ZdC (w:World) (par:Bool) (rem:Bool) (e:Ending) (w':World):Prop :=
 ∃ (rb len:Nat) (row:List Vl),e = .returned (.agg #[.string (if par then ⟨#[117]⟩ else ⟨#[116]⟩),.slice (some ⟨rb,0,none⟩) len len,.bool rem])/\w.heap.size<=rb/\Zj (fun b=>b=rb) w' (.slice (some ⟨rb,0,none⟩) len len) row/\Sh par row/\Chg (fun _=>False) w w'
theorem Zkv (n:Int) : -3<=n.tmod 4/\n.tmod 4<=3:=by
 have b1 : -4<n.tmod 4:=Int.lt_tmod_of_pos n (by omega);have b2:n.tmod 4<4:=Int.tmod_lt_of_pos n (by omega);omega
theorem ZfG {w:World} {rb:Nat} {n m:Int} {s:ByteArray} (h:w.heap[rb]? = some (.cells #[.int .i64 1,.int .i64 n,.string ⟨#[]⟩,.int .i64 1,.int .i64 m,.string ⟨#[]⟩,.int .i64 2,.int .i64 0,.string s] 55 (0,0))) (hs:s.size<=2) :
  Zj (fun b=>b=rb) w (.slice (some ⟨rb,0,none⟩) 3 3) [⟨1,n,[]⟩,⟨1,m,[]⟩,⟨2,0,s.data.toList⟩]:=by
 have hlt:rb<w.heap.size:=lt_of_block h;have hl:s.data.toList.length<=2:=by rw [Array.length_toList]; exact hs
 refine ⟨_,_,rfl,by simp,by decide,fun _=>⟨rb,0,rfl,rfl,hlt,fun j x hj => ?_⟩⟩;have c:=fun i=>cell_of_row w rb i _ _ _ h
 match j,hj with
 | 0,hj=>cases hj; exact ⟨by rw [c]; rfl,by rw [c]; rfl,by rw [c]; rfl,by simp⟩
 | 1,hj=>cases hj; exact ⟨by rw [c]; rfl,by rw [c]; rfl,by rw [c]; rfl,by simp⟩
 | 2,hj=>cases hj; exact ⟨by rw [c]; rfl,by rw [c]; rfl,by rw [c]; simp [<- Zih],by simp only; omega⟩
 | j+3,hj=>simp at hj
theorem VH {w w1:World} {o p:Obj} (h:Chg (fun _=>False) ((w.alloc o).alloc p) w1):w.heap.size+2<=w1.heap.size:=by
 have h1:=h.size;have e1:∀ (W:World) (o:Obj),(W.alloc o).heap.size=W.heap.size+1:=fun W o=>Array.size_push _;rw [e1,e1] at h1;exact h1
theorem XE {w:World} {B:Nat} {x y z:Value} {t:TypeId} (h:w.heap[B]? = some (.cells #[x,y,z] t (0,0))) :
  (∀ o,(w.alloc o).cell? ⟨B,0,none⟩=some x)/\(∀ o,(w.alloc o).cell? ⟨B,1,none⟩=some y)/\(∀ o,(w.alloc o).cell? ⟨B,2,none⟩=some z)/\(∀ o,(w.alloc o).frozen? ⟨B,0,none⟩=false)/\(∀ o,(w.alloc o).frozen? ⟨B,1,none⟩=false)/\(∀ o,(w.alloc o).frozen? ⟨B,2,none⟩=false):=by
 have h2:∀ o,(w.alloc o).heap[B]? = some (.cells #[x,y,z] t (0,0)):=fun o=>((Chg.refl (fun _=>False) w).alloc o).heap h fun h=>h;exact ⟨fun o=>(Z1 (h2 o)).1,fun o=>(Z1 (h2 o)).2.1,fun o=>(Z1 (h2 o)).2.2,fun o=>frozen_of_row _ B 0 _ _ (h2 o),fun o=>frozen_of_row _ B 1 _ _ (h2 o),fun o=>frozen_of_row _ B 2 _ _ (h2 o)⟩
theorem ZdD (s:ByteArray):(s.extract 0 2).size<=2:=by rw [ByteArray.size_extract]; omega
theorem Sv {w w2:World} {n m:Int} {s:ByteArray} {A:Value} {rem:Bool} {x y z:Value} (c:Chg (fun _=>False) w w2) (hsz:w.heap.size+2<=w2.heap.size) (hs:s.size<=2) (hn : -3<=n/\n<=3) (hm : -3<=m/\m<=3) :
  ZdC w false rem (.returned (.agg #[.string ⟨#[116]⟩,.slice (some ⟨w2.heap.size,0,none⟩) 3 3,.bool rem]))
   (((((w2.alloc (.cells #[.int .i64 1,.int .i64 n,.string ⟨#[]⟩,.int .i64 1,.int .i64 m,.string ⟨#[]⟩,.int .i64 2,.int .i64 0,.string s] 55)).setCell ⟨w.heap.size,1,none⟩ A).setCell ⟨w.heap.size+1,0,none⟩ x).setCell ⟨w.heap.size+1,1,none⟩ y).setCell ⟨w.heap.size+1,2,none⟩ z):=by
 have h2:Chg (fun k=>k=w.heap.size\/k=w.heap.size+1) (w2.alloc (.cells #[.int .i64 1,.int .i64 n,.string ⟨#[]⟩,.int .i64 1,.int .i64 m,.string ⟨#[]⟩,.int .i64 2,.int .i64 0,.string s] 55)) _ :=
  Chg.Qb (Chg.Qb (Chg.Qb (Chg.Qb (Chg.refl _ _) (D:=w.heap.size) (.inl rfl) 1 A) (D:=w.heap.size+1) (.inr rfl) 0 x) (D:=w.heap.size+1) (.inr rfl) 1 y) (D:=w.heap.size+1) (.inr rfl) 2 z
 refine ⟨w2.heap.size,3,_,rfl,by omega,ZfG (h2.heap (heap_alloc_new w2 _) (by omega)) hs,⟨n,m,_,rfl,hn,hm,by rw [Array.length_toList]; exact hs⟩,(c.alloc _).trans h2 fun i hi e=>by omega⟩
theorem Ut {F:Nat->Prop} {w:World} {tab:ByteArray} {rv:Value} {r:List Vl} {rem:Bool} (h:Zj F w rv r) (hev:tab.size%2=0) :
  Calls prog 24 #[.agg #[.string tab,rv,.bool rem]] w (ZdC w false rem):=by
 have fK:=Su;have lC:=Ww;obtain ⟨A,cap,rfl,hn,hcap,hat⟩:=h;have t1:=Zkv;have t0:(0:Int)<=3:=by decide
 have hp2:(((tab.size:Int)%2)==0)=true:=by rw [beq_iff_eq]; omega
 clear hev;have HE:=Hd ZdD;by_cases h0:0<r.length
 ·obtain ⟨b,off,rfl,_,hb,hx⟩:=hat h0;obtain ⟨x,hx0⟩:∃ x,r[0]? = some x:=⟨_,List.getElem?_eq_getElem h0⟩
  obtain ⟨a0,a1,a2,al⟩:=hx 0 x hx0;simp only [Nat.zero_mul,Nat.add_zero] at a0 a1 a2;by_cases h1:1<r.length
  ·obtain ⟨y,hy0⟩:∃ y,r[1]? = some y:=⟨_,List.getElem?_eq_getElem h1⟩
   obtain ⟨b0,b1,b2,bl⟩:=hx 1 y hy0;simp only [Nat.one_mul] at b0 b1 b2;clear hat hx hx0 hy0;obtain ⟨L,hL⟩:∃ L,r.length=L:=⟨_,rfl⟩
   rw [hL] at h0 h1 ⊢;clear hL;have l0:(0:Int)<(L:Int):=by omega
   have l1:(1:Int)<(L:Int):=by omega
   go_enter func24,ntmps24
   go_wp2_with fail
   all_goals
    refine (fK _ _).mono ?_;rintro _ w1 ⟨rfl,c1⟩;have cc:=(((Chg.refl (fun _=>False) w).alloc _).alloc _).trans c1 fun _ _ h=>h;have hs2:=VH c1;have hz:=c1.size;obtain ⟨p0,p1⟩:=Qw c1
    go_wp2_with fail
    refine (fK _ _).mono ?_;rintro _ w2 ⟨rfl,c2⟩;have p0:=c2.heap p0 fun h=>h;have p1:=c2.heap p1 fun h=>h;have cc:=cc.trans c2 fun _ _ h=>h;have hz2:=c2.size
    go_wp2_with fail
    refine (lC _ _).mono ?_;rintro _ w3 ⟨rfl,c3⟩;have p0:=c3.heap p0 fun h=>h;have p1:=c3.heap p1 fun h=>h;have cc:=cc.trans c3 fun _ _ h=>h;have hz3:=c3.size;have hsz:w.heap.size+2<=w3.heap.size:=by have:=hs2; omega
    obtain ⟨q0,q1,q2,z0,z1,z2⟩:=XE p0;obtain ⟨r0,r1,r2,y0,y1,y2⟩:=XE p1;clear p0 p1 c1 c2 hz hz2 c3 hz3
    go_wp2_with fail
    refine bodyPost_ret (v := .agg #[.string ⟨#[116]⟩,.slice (some ⟨w3.heap.size,0,none⟩) 3 3,.bool rem]) ?_ rfl ?_
    ·simp only [results,show Tryz.f24.results = #[.cell 2 41] from rfl];go_simp
    ·exact Sv cc hsz (by first | exact HE.out _ | omega | decide) (by first | exact t1 _ | decide) (by first | exact t1 _ | decide)
  ·clear hat hx hx0;obtain ⟨L,hL⟩:∃ L,r.length=L:=⟨_,rfl⟩
   rw [hL] at h0 h1 ⊢;clear hL;have l0:(0:Int)<(L:Int):=by omega
   have l1:¬ (1:Int)<(L:Int):=by omega
   go_enter func24,ntmps24
   go_wp2_with fail
   all_goals
    refine (fK _ _).mono ?_;rintro _ w1 ⟨rfl,c1⟩;have cc:=(((Chg.refl (fun _=>False) w).alloc _).alloc _).trans c1 fun _ _ h=>h;have hs2:=VH c1;have hz:=c1.size;obtain ⟨p0,p1⟩:=Qw c1
    go_wp2_with fail
    refine (fK _ _).mono ?_;rintro _ w2 ⟨rfl,c2⟩;have p0:=c2.heap p0 fun h=>h;have p1:=c2.heap p1 fun h=>h;have cc:=cc.trans c2 fun _ _ h=>h;have hz2:=c2.size
    go_wp2_with fail
    refine (lC _ _).mono ?_;rintro _ w3 ⟨rfl,c3⟩;have p0:=c3.heap p0 fun h=>h;have p1:=c3.heap p1 fun h=>h;have cc:=cc.trans c3 fun _ _ h=>h;have hz3:=c3.size;have hsz:w.heap.size+2<=w3.heap.size:=by have:=hs2; omega
    obtain ⟨q0,q1,q2,z0,z1,z2⟩:=XE p0;obtain ⟨r0,r1,r2,y0,y1,y2⟩:=XE p1;clear p0 p1 c1 c2 hz hz2 c3 hz3
    go_wp2_with fail
    refine bodyPost_ret (v := .agg #[.string ⟨#[116]⟩,.slice (some ⟨w3.heap.size,0,none⟩) 3 3,.bool rem]) ?_ rfl ?_
    ·simp only [results,show Tryz.f24.results = #[.cell 2 41] from rfl];go_simp
    ·exact Sv cc hsz (by first | exact HE.out _ | omega | decide) (by first | exact t1 _ | decide) (by first | exact t1 _ | decide)
 ·clear hat;obtain ⟨L,hL⟩:∃ L,r.length=L:=⟨_,rfl⟩
  rw [hL] at h0 ⊢;clear hL;have l0:¬ (0:Int)<(L:Int):=by omega
  have l1:¬ (1:Int)<(L:Int):=by omega
  go_enter func24,ntmps24
  go_wp2_with fail
  all_goals
   refine (fK _ _).mono ?_;rintro _ w1 ⟨rfl,c1⟩;have cc:=(((Chg.refl (fun _=>False) w).alloc _).alloc _).trans c1 fun _ _ h=>h;have hs2:=VH c1;have hz:=c1.size;obtain ⟨p0,p1⟩:=Qw c1
   go_wp2_with fail
   refine (fK _ _).mono ?_;rintro _ w2 ⟨rfl,c2⟩;have p0:=c2.heap p0 fun h=>h;have p1:=c2.heap p1 fun h=>h;have cc:=cc.trans c2 fun _ _ h=>h;have hz2:=c2.size
   go_wp2_with fail
   refine (lC _ _).mono ?_;rintro _ w3 ⟨rfl,c3⟩;have p0:=c3.heap p0 fun h=>h;have p1:=c3.heap p1 fun h=>h;have cc:=cc.trans c3 fun _ _ h=>h;have hz3:=c3.size;have hsz:w.heap.size+2<=w3.heap.size:=by have:=hs2; omega
   obtain ⟨q0,q1,q2,z0,z1,z2⟩:=XE p0;obtain ⟨r0,r1,r2,y0,y1,y2⟩:=XE p1;clear p0 p1 c1 c2 hz hz2 c3 hz3
   go_wp2_with fail
   refine bodyPost_ret (v := .agg #[.string ⟨#[116]⟩,.slice (some ⟨w3.heap.size,0,none⟩) 3 3,.bool rem]) ?_ rfl ?_
   ·simp only [results,show Tryz.f24.results = #[.cell 2 41] from rfl];go_simp
   ·exact Sv cc hsz (by first | exact HE.out _ | omega | decide) (by first | exact t1 _ | decide) (by first | exact t1 _ | decide)
end
section
open Go.RowKit
theorem Uu {F G:Nat->Prop} {w:World} {v u:Value} {r:List Vl} (h:Zj F w v r) (hu:Zj G w u r) :
  Calls prog 26 #[v,u] w fun e w'=>e = .returned (.bool true)/\Chg (fun _=>False) w w':=by
 obtain ⟨A,cap,rfl,hn,hcap,hat⟩:=h;obtain ⟨B,cap2,rfl,hn2,hcap2,hbt⟩:=hu;have HA:=Hd hat;have HB:=Hd hbt;clear hat hbt
 go_enter func26,ntmps26
 go_wp2_with fail
 go_loopw [5] (fun i wr=>∃ I:Nat,I<=r.length/\i = .int .i64 I/\Chg (fun _=>False) w wr) (fun i _=>r.length-(intOf i).toNat)
 case atStart=>exact ⟨0,Nat.zero_le _,rfl,Chg.refl _ _⟩
 case round =>
  obtain ⟨I,hI,rfl,hcw⟩:=hrel;by_cases hlt:I<r.length
  ·obtain ⟨b,off,rfl,_,hb,hx⟩:=HA.out (by omega);obtain ⟨b2,aW,rfl,_,hb2,hx2⟩:=HB.out (by omega);obtain ⟨x,ah⟩:∃ x,r[I]? = some x:=⟨_,List.getElem?_eq_getElem hlt⟩
   obtain ⟨q0,q1,q2,_⟩:=(hx I x ah).chg hcw (fun h=>h);obtain ⟨p0,p1,p2,_⟩:=(hx2 I x ah).chg hcw (fun h=>h)
   go_wp2_with fail
   go_region_held (fun wx=>wx.cell? ⟨b,off+I*3,none⟩=some (.int .i64 x.k)/\wx.cell? ⟨b,off+I*3+1,none⟩=some (.int .i64 x.n)/\wx.cell? ⟨b,off+I*3+2,none⟩=some (.string (str x.s))/\wx.cell? ⟨b2,aW+I*3,none⟩=some (.int .i64 x.k)/\wx.cell? ⟨b2,aW+I*3+1,none⟩=some (.int .i64 x.n)/\wx.cell? ⟨b2,aW+I*3+2,none⟩=some (.string (str x.s))) (go_keep) (fail)
   go_wp2_with fail
   go_roundw
   case rel=>exact ⟨I+1,by omega,by go_num,hcw.drew⟩
   case measure=>simp [intOf]; omega
  ·have hge:¬ ((I:Int)<(r.length:Int)):=by omega
   go_wp2_with fail
   go_ret
   exact ⟨rfl,hcw⟩
theorem Ht {F:Nat->Prop} {w:World} {rv:Value} {r:List Vl} {n:Nat} (hr:Zj F w rv r) (hn:n<=1125899906842624) (hlen:r.length<=1000000) :
  Calls prog 21 #[.int .i64 (n:Int),rv] w (Neu w fun u w'=>∃ b,w.heap.size<=b/\u = .slice (some ⟨b,0,none⟩) 1 1/\w'.cell? ⟨b,0,none⟩=some rv/\w'.cell? ⟨b,1,none⟩=some (tc n 0)):=by
 have h0:¬ ((n:Int)<0):=by omega
 have h2:=fun w=>Y3 n 2 85 w (by kernel_rfl) (by kernel_rfl);obtain ⟨A,cap,rfl,hn1,hcap,hat⟩:=hr;unfold tc
 go_enter func21,ntmps21
 go_wp2_with fail
 go_ret
 refine ⟨_,rfl,⟨w.heap.size,Nat.le_refl _,rfl,?_,?_⟩,(Chg.refl _ w).alloc _⟩
 ·go_simp
 ·go_simp;exact XH.symm
end
section
open Go.RowKit
theorem Ng {F G:Nat->Prop} {w:World} {v u:Value} {l:List Itm} (h:Zo F w v l) (hu:Zo G w u l) :
  Calls prog 20 #[v,u] w fun e w'=>e = .returned (.bool true)/\Chg (fun _=>False) w w':=by
 obtain ⟨A,cap,rfl,hn,hcap,hat⟩:=h;obtain ⟨B,cap2,rfl,hn2,hcap2,hbt⟩:=hu;have HA:=Hd hat;have HB:=Hd hbt;clear hat hbt
 go_enter func20,ntmps20
 go_wp2_with fail
 go_loopw [5] (fun i wr=>∃ I:Nat,I<=l.length/\i = .int .i64 I/\Chg (fun _=>False) w wr) (fun i _=>l.length-(intOf i).toNat)
 case atStart=>exact ⟨0,Nat.zero_le _,rfl,Chg.refl _ _⟩
 case round =>
  obtain ⟨I,hI,rfl,hcw⟩:=hrel;by_cases hlt:I<l.length
  ·obtain ⟨b,off,rfl,_,hb,hx⟩:=HA.out (by omega);obtain ⟨b2,aW,rfl,_,hb2,hx2⟩:=HB.out (by omega);obtain ⟨x,ah⟩:∃ x,l[I]? = some x:=⟨_,List.getElem?_eq_getElem hlt⟩
   obtain ⟨⟨rv,q0,r0⟩,q1,ha,hbb,hrl⟩:=hx I x ah;obtain ⟨⟨qJ,p0,r1⟩,p1,_,_,_⟩:=hx2 I x ah;have hrow:∀ W,Chg (fun _=>False) w W->Calls prog 26 #[rv,qJ] W fun e w'=>e = .returned (.bool true)/\Chg (fun _=>False) W w':=fun W hc=>Uu (r0.Zf hc) (r1.Zf hc)
   have he1:∀ W,(binOp .neq 57 (.complex .f64 (fl x.a) (fl x.b)) (.complex .f64 (fl x.a) (fl x.b))).run prog W = .ok (.bool false) W:=fun W=>by
    have:=Ko (P:=prog) (a:=x.a) (b:=x.b) (c:=x.a) (d:=x.b) (by omega) (by omega) (by omega) (by omega) 57 W;rw [this];simp
   obtain ⟨RA,ae,rfl,_⟩:=r0;obtain ⟨RB,eP,rfl,_⟩:=r1;unfold tc at q1 p1;clear hx hx2 ah
   go_wp2_with fail
   have hWd:Chg (fun _=>False) w wr.drew:=hcw.drew;have c0:wr.drew.cell? ⟨b,off+I*2,none⟩=some (.slice RA x.row.length ae):=hWd.cell q0 (fun h=>h);have c1:wr.drew.cell? ⟨b,off+I*2+1,none⟩=some (.complex .f64 (fl x.a) (fl x.b)):=hWd.cell q1 (fun h=>h);have c2:wr.drew.cell? ⟨b2,aW+I*2,none⟩=some (.slice RB x.row.length eP):=hWd.cell p0 (fun h=>h);have c3:wr.drew.cell? ⟨b2,aW+I*2+1,none⟩=some (.complex .f64 (fl x.a) (fl x.b)):=hWd.cell p1 (fun h=>h);refine wp_region_held_drew (S:=fun wx=>wx.cell? ⟨b,off+I*2,none⟩=some (.slice RA x.row.length ae)/\wx.cell? ⟨b,off+I*2+1,none⟩=some (.complex .f64 (fl x.a) (fl x.b))/\wx.cell? ⟨b2,aW+I*2,none⟩=some (.slice RB x.row.length eP)/\wx.cell? ⟨b2,aW+I*2+1,none⟩=some (.complex .f64 (fl x.a) (fl x.b))) (by kernel_rfl) ⟨c0,c1,c2,c3⟩ (fun hHeld => ?_);refine tkH 0 (some 17) ?_;refine tkH 1 (some 18) ?_;refine tkH 2 (some 19) ?_;refine tkH 3 (some 20) ?_;refine tkH 4 (some 21) ?_;refine tkH 5 (some 22) ?_;refine tkH 6 (some 23) ?_;refine tkH 7 (some 24) ?_;refine tkH 8 (some 25) ?_;refine tkH 9 (some 26) ?_;refine wpAnyH_ready (rs:=[10]) (by kernel_rfl) (by simp) ?_;refine AllReadyH.cons rfl (fun K hK => ?_) AllReadyH.nil;go_simp;refine (hrow _ hWd).mono ?_;rintro _ w1 ⟨rfl,h1⟩;have hW1:=hWd.trans h1 fun _ _ h=>h;have d0:=h1.cell c0 (fun h=>h);have d1:=h1.cell c1 (fun h=>h);have d2:=h1.cell c2 (fun h=>h);have d3:=h1.cell c3 (fun h=>h)
   go_wp2_with fail
   refine hK.out _ _ ?_ (fun hHeld => ?_)
   ·((refine ⟨?_,?_,?_,?_⟩ <;> assumption))
   clear hK K
   try simp only [Act.put,List.setIfInBounds_toArray,List.set_cons_zero,List.set_cons_succ]
   refine tkH 11 (some 28) ?_;refine tkH 12 (some 29) ?_;refine tkH 13 (some 30) ?_;refine tkH 14 (some 31) ?_;refine tkH 15 (some 32) ?_;refine tkH 16 (some 33) ?_;refine tkH 17 (some 34) ?_;refine tkH 18 (some 35) ?_;refine tkH 19 (some 36) ?_;refine tkH 20 (some 37) ?_;refine tkH 21 (some 38) ?_;refine tkH 22 (some 39) ?_;refine tkH 23 (some 40) ?_;refine tkH 24 (some 41) ?_;refine wpAnyH_done (by kernel_rfl) ?_ _
   go_wp2_with fail
   go_roundw
   case rel=>exact ⟨I+1,by omega,by go_num,hW1⟩
   case measure=>simp [intOf]; omega
  ·have hge:¬ ((I:Int)<(l.length:Int)):=by omega
   go_wp2_with fail
   go_ret
   exact ⟨rfl,hcw⟩
end
section
open Go.RowKit
theorem ZlJ (x y:Vl) (w:World):(binOp .neq 55 (.agg #[.int .i64 x.k,.int .i64 x.n,.string (str x.s)]) (.agg #[.int .i64 y.k,.int .i64 y.n,.string (str y.s)])).run prog w = .ok (.bool (!decide (x=y))) w:=by
 go_simp;rw [ZO,ZO];obtain ⟨k,n,s⟩:=x;obtain ⟨k',n',s'⟩:=y;simp only [Vl.mk.injEq];by_cases h1:k=k' <;> by_cases h2:n=n' <;> by_cases h3:s=s' <;> simp [h1,h2,h3]
theorem Cw {F G:Nat->Prop} {w:World} {v u:Value} {r t:List Vl} (h:Zj F w v r) (hu:Zj G w u t) (hlen:r.length=t.length) :
  Calls prog 26 #[v,u] w fun e w'=>e = .returned (.bool (decide (r=t)))/\Chg (fun _=>False) w w':=by
 obtain ⟨A,cap,rfl,hn,hcap,hat⟩:=h;obtain ⟨B,cap2,rfl,hn2,hcap2,hbt⟩:=hu;have HA:=Hd hat;have HB:=Hd hbt;clear hat hbt;rw [<- hlen]
 go_enter func26,ntmps26
 go_wp2_with fail
 go_loopw [5] (fun i wr=>∃ I:Nat,I<=r.length/\i = .int .i64 I/\r.take I=t.take I/\Chg (fun _=>False) w wr) (fun i _=>r.length-(intOf i).toNat)
 case atStart=>exact ⟨0,Nat.zero_le _,rfl,rfl,Chg.refl _ _⟩
 case round =>
  obtain ⟨I,hI,rfl,heq,hcw⟩:=hrel;by_cases hlt:I<r.length
  ·obtain ⟨b,off,rfl,_,hb,hx⟩:=HA.out (by omega);obtain ⟨b2,aW,rfl,_,hb2,hx2⟩:=HB.out (by omega);obtain ⟨x,ah⟩:∃ x,r[I]? = some x:=⟨_,List.getElem?_eq_getElem hlt⟩
   obtain ⟨y,ku⟩:∃ y,t[I]? = some y:=⟨_,List.getElem?_eq_getElem (by omega)⟩
   obtain ⟨q0,q1,q2,_⟩:=(hx I x ah).chg hcw (fun h=>h);obtain ⟨p0,p1,p2,_⟩:=(hx2 I y ku).chg hcw (fun h=>h);have hne:=ZlJ x y;have rF:=Hd (And.intro ah ku);have HEQ:=Hd heq;clear ah ku heq hx hx2;obtain ⟨D,hD⟩:∃ D,D=decide (x=y):=⟨_,rfl⟩
   rw [<- hD] at hne;have HD:=Hd hD;clear hD;cases D
   all_goals
    simp only [Bool.not_false,Bool.not_true] at hne
    go_wp2_with fail
    go_region_held (fun wx=>wx.cell? ⟨b,off+I*3,none⟩=some (.int .i64 x.k)/\wx.cell? ⟨b,off+I*3+1,none⟩=some (.int .i64 x.n)/\wx.cell? ⟨b,off+I*3+2,none⟩=some (.string (str x.s))/\wx.cell? ⟨b2,aW+I*3,none⟩=some (.int .i64 y.k)/\wx.cell? ⟨b2,aW+I*3+1,none⟩=some (.int .i64 y.n)/\wx.cell? ⟨b2,aW+I*3+2,none⟩=some (.string (str y.s))) (go_keep) (fail)
    go_wp2_with fail
   ·go_ret
    refine ⟨?_,hcw.drew⟩
    have hne:¬ r=t:=fun e=>by
     have h1:=rF.out.1;rw [e,rF.out.2] at h1;have h2:y=x:=Option.some.inj h1;have h3:=of_decide_eq_false HD.out.symm;exact h3 h2.symm
    rw [decide_eq_false hne];rfl
   ·go_roundw
    case rel =>
     refine ⟨I+1,by omega,by go_num,?_,hcw.drew⟩;rw [List.take_add_one,List.take_add_one,HEQ.out,rF.out.1,rF.out.2,of_decide_eq_true HD.out.symm]
    case measure=>simp [intOf]; omega
  ·have hge:¬ ((I:Int)<(r.length:Int)):=by omega
   have e:r=t:=by
    have e1:I=r.length:=by omega
    rw [e1,List.take_length,hlen,List.take_length] at heq;exact heq
   have HE:=Hd e;clear e heq
   go_wp2_with fail
   go_ret
   refine ⟨?_,hcw⟩;rw [decide_eq_true HE.out];rfl
end
end Go.Proofs.YtheflbaejhlboaaGreatDoor
