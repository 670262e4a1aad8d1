/- A part of the proof of a law of package confluencetop: lemmas, no condition of ours. -/
import Derived.Test.YtheflbaejhlboaaGreatDoorTopUn10
import Derived.Test.YtheflbaejhlboaaGreatDoorTopUn14
import Derived.Calls
set_option linter.unusedVariables false
set_option linter.unusedSectionVars false
set_option linter.unusedSimpArgs false
namespace Go.Proofs.YtheflbaejhlboaaGreatDoor.Ev
open Go
noncomputable section
inductive Al where
 | nil
 | loc (t:Tmp) (i:Nat) (l:Al)
 | same (t u:Tmp) (l:Al)
 | const (t:Tmp) (v:Value) (l:Al)
def ZT (n:Nat) (al:Al) (t:Tmp):Z9:=match al with
 | .nil => .tmp (bits t)
 | .loc u i l=>sel (Nat.beq t u) (.loc (n-1-i)) (ZT n l t)
 | .same u v l=>sel (Nat.beq t u) (.tmp (bits v)) (ZT n l t)
 | .const u v l=>sel (Nat.beq t u) (RT v) (ZT n l t)
def Q7 (n:Nat) (al:Al):Cod
 | .tmp t=>ZT n al t
 | .const v=>RT v
 | .global _ => .bad
 | .func f => .val (.func f [] [])
inductive Ex where
 | normal | exit (id:Nat) | goto (l:Nat) | ret
inductive Res where
 | ok (x:Ex) (e:Env) (s:St)
 | bad
structure Zap where
 run:Env→St→Res
inductive Ins where
 | mk (run:Cl) (dst:Option (List Bool)) (guard:Option (Z9×Bool))
inductive LD where
 | nil
 | cons (i:Ins) (l:LD)
abbrev YW:=Tmp→Bool
structure ZF where
 n:Nat
 Zi:YW
def JT (K:ZF) (o:Oper):Option (List Bool):=match o.dst with
 | some t=>sel (K.Zi t) (some (bits t)) none
 | none=>none
def Qr (K:ZF) (o:Oper):Bool:=match o.dst with
 | some t=>Nat.blt t K.n
 | none=>true
def guardOf (co:Cod) (ops:Array Oper) (o:Oper):Option (Z9×Bool) :=
 match o.guard with
 | none=>none
 | some (j,w)=>match (ops[j]?).bind (·.dst) with
  | some t=>some (co (.tmp t),w)
  | none=>some (.bad,w)
inductive Mv where
 | no
 | const (d:Tmp) (v:Value)
 | same (d u:Tmp)
 | loc (d:Tmp) (i:Nat)
def WT (al:Al) (d t:Tmp):Mv:=match al with
 | .nil => .same d t
 | .loc u i l=>sel (Nat.beq t u) (.loc d i) (WT l d t)
 | .same u v l=>sel (Nat.beq t u) (.same d v) (WT l d t)
 | .const u v l=>sel (Nat.beq t u) (.const d v) (WT l d t)
def Ue (al:Al) (d:Tmp) (o:Op):Mv:=match o with
 | .move (.const v) => .const d v
 | .move (.tmp t)=>WT al d t
 | _ => .no
def DD (K:ZF) (al:Al) (o:Oper):Mv :=
 match o.guard,o.dst with
 | none,some d=>sel (K.Zi d) .no (Ue al d o.op)
 | _,_ => .no
def Qa (n:Nat) (al:Al) (o:Oper):Al:=match o.dst with
 | some t => .loc t n al
 | none=>al
def Uf:Ins := .mk ⟨Gc⟩ none none
def VW (P:Program) (call:Zu) (K:ZF) (ops:Array Oper) (n:Nat) (al:Al) (o:Oper):Ins :=
 sel (Qr K o) (.mk (comp (Q7 n al) P call o.op) (JT K o) (guardOf (Q7 n al) ops o)) Uf
def Js (P:Program) (call:Zu) (K:ZF) (ops:Array Oper):List Oper→Nat→Al→LD
 | [],_,_ => .nil
 | o::l,n,al=>match DD K al o with
  | .no => .cons (VW P call K ops n al o) (Js P call K ops l (n+1) (Qa n al o))
  | .const d v=>sel (Qr K o) (Js P call K ops l n (.const d v al)) (.cons Uf .nil)
  | .same d u=>sel (Qr K o) (Js P call K ops l n (.same d u al)) (.cons Uf .nil)
  | .loc d i=>sel (Qr K o) (Js P call K ops l n (.loc d i al)) (.cons Uf .nil)
def Kl (e:Env) (v:Zc) (d:Option (List Bool)):Env:=@Option.rec (List Bool) (fun _=>Env) e (fun p=>Tr.Zct (some v) p e) d
def S9 (a b:Bool):Bool:=@Bool.rec (fun _=>Bool) (@Bool.rec (fun _=>Bool) true false b) b a
def isB (w:Bool) (o:Option Bool):Bool:=@Option.rec Bool (fun _=>Bool) false (fun b=>S9 b w) o
inductive Wt where
 | yes | no | bad
def wtV (w:Bool) (v:V):Wt:=@V.rec (fun _=>Wt) (fun v=>sel (isB w (X0 v)) .yes .no) .bad v
def wanted (l:List Zc) (e:Env) (g:Option (Z9×Bool)):Wt:=@Option.rec (Z9×Bool) (fun _=>Wt) .yes (fun x=>wtV x.2 (Zn l e x.1)) g
def Zem (go:List Zc→Env→St→Res) (l:List Zc) (e0 e:Env) (s:St) (i:Ins):Res :=
 @Ins.rec (fun _=>Res) (fun r d g=>@Wt.rec (fun _=>Res)
  (@R.rec (fun _=>Res) (fun v s=>go (v::l) (Kl e v d) s) .bad (r.run l e0 s))
  (go (Qu::l) (Kl e Qu d) s) .bad (wanted l e0 g)) i
def Vr (e0:Env) (is:LD):List Zc→Env→St→Res :=
 @LD.rec (fun _=>List Zc→Env→St→Res) (fun _ e s => .ok .normal e s) (fun i _ ih l e s=>Zem ih l e0 e s i) is
def DE (is:LD) (e:Env) (s:St):Res:=Vr e is [] e s
mutual
def Jz:Zc→Zc→Bool
 | .bool a,.bool b=>S9 a b
 | .int j a,.int k b=>Bool.and (keq j k) (ieq a b)
 | .flt j a,.flt k b=>Bool.and (Lq j k) (Nat.beq a b)
 | .ZW j a c,.ZW k b d=>Bool.and (Lq j k) (Bool.and (Nat.beq a b) (Nat.beq c d))
 | .str a,.str b=>Qv a b
 | .Zh,.Zh=>true
 | .ptr i a,.ptr j b=>Bool.and (Nat.beq i j) (Nat.beq a b)
 | .Za,.Za=>true
 | .ZX,.ZX=>true
 | .slice i a n none,.slice j b m none=>Bool.and (Nat.beq i j) (Bool.and (Nat.beq a b) (Nat.beq n m))
 | .slice i a n (some c),.slice j b m (some d)=>Bool.and (Nat.beq i j) (Bool.and (Nat.beq a b) (Bool.and (Nat.beq n m) (Nat.beq c d)))
 | .Zk,.Zk=>true
 | .map i,.map j=>Nat.beq i j
 | .func f a b,.func g c d=>Bool.and (Nat.beq f g) (Bool.and (Jt a c) (Jt b d))
 | .ZH,.ZH=>true
 | .nilIface,.nilIface=>true
 | .iface t a,.iface u b=>Bool.and (Nat.beq t u) (Jz a b)
 | .agg a,.agg b=>Jt a b
 | .tuple a,.tuple b=>Jt a b
 | .sint j c a b,.sint k d e f=>Bool.and (keq j k) (Bool.and (ieq c d) (Bool.and (ieq a e) (ieq b f)))
 | .raw a,.raw b=>S9 a b
 | .gho a b,.gho c d=>Bool.and (Nat.beq a c) (Nat.beq b d)
 | _,_=>false
def Jt:List Zc→List Zc→Bool
 | [],[]=>true
 | x::xs,y::ys=>Bool.and (Jz x y) (Jt xs ys)
 | _,_=>false
end
inductive Kd where
 | pure | look | make | eff
def DF (P:Program) (a b:TypeId):Kd :=
 match P.underlying a,P.underlying b with
 | some (.slice _),_ => .look
 | some .string,some (.slice _) => .make
 | some (.int _),some (.int _) => .pure
 | some (.float _),some (.int _) => .pure
 | some (.int _),some (.float _) => .pure
 | some .string,some .string => .pure
 | _,_ => .eff
def LF (c:Call):Kd:=match c.callee with
 | .builtin .len => .look
 | .builtin .cap => .look
 | .builtin .real => .pure
 | .builtin .imag => .pure
 | .builtin .complex => .pure
 | .builtin .max => .pure
 | .builtin .min => .pure
 | _ => .eff
def KG (P:Program) (o:Op):Kd:=match o with
 | .move _ => .pure
 | .assign _ => .pure
 | .pick _ _ _ => .pure
 | .build _ _ => .pure
 | .nilCheck _ => .pure
 | .binOp _ _ _ _ _ => .pure
 | .unOp _ _ _ => .pure
 | .makeInterface _ _ => .pure
 | .makeFunc _ _ _ => .pure
 | .fieldAddr _ _ _ => .pure
 | .field _ _ _ => .pure
 | .indexAddr _ _ _ => .pure
 | .index _ _ _ => .pure
 | .typeAssert _ _ _ _ => .pure
 | .extract _ _ => .pure
 | .load _ _ => .look
 | .lookup _ _ _ _ => .look
 | .entry _ => .look
 | .slice _ _ _ _ _ => .look
 | .alloc _ => .make
 | .box _ _ => .make
 | .buildSlice _ _ _ => .make
 | .makeMap _ none => .make
 | .makeSlice _ _ _ => .make
 | .convert a b _=>DF P a b
 | .call c=>LF c
 | _ => .eff
def Kd.isE (k:Kd):Bool:=match k with
 | .eff=>true
 | _=>false
def Kd.isL (k:Kd):Bool:=match k with
 | .look=>true
 | _=>false
structure DI where
 dst:Option Tmp
 names:List Tmp
 eff:Bool
 look:Bool
 bf:Nat
def Pa:List Operand→List Tmp
 | []=>[]
 | .tmp t::l=>t::Pa l
 | _::l=>Pa l
def YX (ops:Array Oper) (o:Oper):List Tmp:=match o.guard with
 | none=>[]
 | some (j,_)=>match (ops[j]?).bind (·.dst) with
  | some t=>[t]
  | none=>[]
def Ug:List Nat→Nat→Nat
 | [],_=>0
 | a::l,n=>match n with
  | 0=>a
  | n+1=>Ug l n
def YY (acc:List Nat):List Edge→Nat
 | []=>0
 | e::l=>sel (Region.binds .any e) (Nat.lor (Nat.lor (Nat.pow 2 e.on) (Ug acc e.on)) (YY acc l)) (YY acc l)
def Zx:List Oper→List Nat→List Nat
 | [],acc=>acc
 | o::l,acc=>Zx l (acc++[YY acc o.after.toList])
def Pb (P:Program) (ops:Array Oper) (o:Oper) (bf:Nat):DI :=
 ⟨o.dst,Pa o.op.operands.toList++YX ops o,(KG P o.op).isE,(KG P o.op).isL,bf⟩
def QH (P:Program) (ops:Array Oper):List Oper→List Nat→List DI
 | [],_=>[]
 | o::l,bfs=>match bfs with
  | []=>[]
  | b::bfs=>Pb P ops o b::QH P ops l bfs
def inO (o:Option Tmp) (l:List Tmp):Bool:=match o with
 | some t=>Wv t l
 | none=>false
def Zaq (a b:Option Tmp):Bool:=match a,b with
 | some x,some y=>Nat.beq x y
 | _,_=>false
def J4 (x y:DI):Bool :=
 sel (inO x.dst y.names) true (sel (inO y.dst x.names) true (sel (Zaq x.dst y.dst) true (Bool.and x.eff y.eff)))
def Pc (y:DI):List DI→Nat→Bool
 | [],_=>true
 | x::l,i=>sel (J4 x y) (sel (Nat.testBit y.bf i) (Pc y l (i+1)) false) (Pc y l (i+1))
def Vs:List DI→List DI→Bool
 | _,[]=>true
 | pre,y::l=>sel (Pc y pre 0) (Vs (pre++[y]) l) false
def YZ (i:Nat):List Edge→Bool
 | []=>true
 | e::l=>sel (Region.binds .any e) (sel (Nat.blt e.on i) (YZ i l) false) (YZ i l)
def Yh:List Oper→Nat→Bool
 | [],_=>true
 | o::l,i=>sel (YZ i o.after.toList) (Yh l (i+1)) false
def Pd (bf:Nat):List DI→Nat→Nat
 | [],_=>0
 | x::l,i=>sel (Bool.and x.eff (Nat.testBit bf i)) (Pd bf l (i+1)+1) (Pd bf l (i+1))
def Pe (j:Nat):List DI→Nat
 | []=>0
 | x::l=>sel (Bool.and x.eff (!Nat.testBit x.bf j)) (Pe j l+1) (Pe j l)
inductive Zfn where
 | mk (i:Ins) (eff look:Bool) (lo hi:Nat)
inductive VX where
 | nil
 | cons (i:Zfn) (l:VX)
def Qi (P:Program) (call:Zu) (K:ZF) (ops:Array Oper) (dis:List DI):List Oper→List DI→Nat→Al→VX
 | [],_,_,_ => .nil
 | o::l,ds,n,al=>match ds with
  | [] => .cons (.mk Uf false false 0 0) .nil
  | d::ds => .cons (.mk (VW P call K ops n al o) d.eff d.look (Pd d.bf dis 0) (Pe n dis)) (Qi P call K ops dis l ds (n+1) (Qa n al o))
mutual
def RW (n:Nat):Zc→Bool
 | .ptr i _=>Nat.blt i n
 | .slice i _ _ _=>Nat.blt i n
 | .map i=>Nat.blt i n
 | .gho i _=>Nat.blt i n
 | .func _ a b=>Bool.and (WU n a) (WU n b)
 | .iface _ v=>RW n v
 | .agg l=>WU n l
 | .tuple l=>WU n l
 | _=>true
def WU (n:Nat):List Zc→Bool
 | []=>true
 | v::l=>Bool.and (RW n v) (WU n l)
end
inductive TG where
 | ok (l:List Zc) (e:Env) (s:St) (ss:List St)
 | bad
def C2 (go:List Zc→Env→St→List St→TG) (l:List Zc) (e0 e:Env) (s:St) (ss:List St) (i:Ins) (eff:Bool):TG :=
 @Ins.rec (fun _=>TG) (fun r d g=>@Wt.rec (fun _=>TG)
  (@R.rec (fun _=>TG) (fun v s'=>sel (Bool.and (Nat.ble s.next s'.next) (RW s'.next v)) (go (v::l) (Kl e v d) s' (sel eff (s::ss) ss)) .bad) .bad (r.run l e0 s))
  (go (Qu::l) (Kl e Qu d) s (sel eff (s::ss) ss)) .bad (wanted l e0 g)) i
def MC (e0:Env) (is:VX):List Zc→Env→St→List St→TG :=
 @VX.rec (fun _=>List Zc→Env→St→List St→TG) (fun l e s ss => .ok l e s ss)
  (fun i _ ih l e s ss=>@Zfn.rec (fun _=>TG) (fun i eff _ _ _=>C2 ih l e0 e s ss i eff) i) is
def Zar (v:Zc) (r:R):Bool:=match r with
 | .ok u _=>Jz u v
 | .bad=>false
def looksAt (f:St→R) (v:Zc) (lo hi:Nat):List St→Nat→Bool
 | [],_=>true
 | s::ss,m=>sel (Bool.and (Nat.ble lo m) (Nat.ble m hi)) (sel (Zar v (f s)) (looksAt f v lo hi ss (m+1)) false) (looksAt f v lo hi ss (m+1))
def Zas (l:List Zc) (e0:Env) (v:Zc) (lo hi:Nat) (ss:List St) (i:Ins):Bool :=
 @Ins.rec (fun _=>Bool) (fun r _ g=>@Wt.rec (fun _=>Bool) (looksAt (r.run l e0) v lo hi ss 0) true false (wanted l e0 g)) i
def looks (e0:Env) (ss:List St) (is:VX):List Zc→List Zc→Bool :=
 @VX.rec (fun _=>List Zc→List Zc→Bool) (fun _ _=>true)
  (fun i _ ih vs l=>@List.rec Zc (fun _=>Bool) false (fun v vs _ =>
   @Zfn.rec (fun _=>Bool) (fun i _ look lo hi=>sel look (sel (Zas l e0 v lo hi ss i) (ih vs (v::l)) false) (ih vs (v::l))) i) vs) is
def Pf (e0:Env) (is:VX) (r:TG):Res:=match r with
 | .ok l e s ss=>sel (looks e0 ((s::ss).reverse) is l.reverse []) (.ok .normal e s) .bad
 | .bad => .bad
def Sj (is:VX) (e:Env) (s:St):Res:=Pf e is (MC e is [] e s [])
def GI (P:Program) (ops:Array Oper) (dis:List DI):Bool:=sel (Yh ops.toList 0) (Vs [] dis) false
def JU:List Oper→Nat→Al→Nat→Al
 | _,_,al,0=>al
 | [],_,al,_=>al
 | o::rest,n,al,k+1=>JU rest (n+1) (Qa n al o) k
def Zat:List DI→Nat→Option Nat→Option Nat
 | [],_,r=>r
 | x::l,i,r=>Zat l (i+1) (sel x.eff (some i) r)
def MD (y:DI):DI:=⟨y.dst,y.names,false,y.look,y.bf⟩
def Sk (p bf:Nat):List DI→Nat→Bool
 | [],_=>true
 | x::l,i=>sel (sel x.eff (sel (Nat.beq i p) true (Nat.testBit bf i)) true) (Sk p bf l (i+1)) false
def Kd.isP (k:Kd):Bool:=match k with
 | .pure=>true
 | _=>false
def C3 (P:Program) (p bf:Nat):List Oper→Nat→Bool
 | [],_=>true
 | o::l,i=>sel (sel (Nat.beq i p) true (sel (KG P o.op).isP true (sel (Nat.blt p i) false (Nat.testBit bf i)))) (C3 P p bf l (i+1)) false
def XK (o:Oper):Option Operand:=match o.op,o.guard with
 | .store _ a _,none=>some a
 | _,_=>none
def isSome {α : Type} (o:Option α):Bool:=match o with
 | some _=>true
 | none=>false
def GJ (P:Program) (ops:Array Oper) (dis:List DI):Option Nat :=
 match dis.getLast?,Zat dis.dropLast 0 none,ops.toList.getLast? with
 | some y,some p,some o=>sel (Yh ops.toList 0) (sel (Vs [] (dis.dropLast++[MD y])) (sel (Sk p y.bf dis.dropLast 0) (sel (C3 P p y.bf ops.toList.dropLast 0)
   (sel (isSome (XK o)) (sel (isSome ((ops.toList[p]?).bind XK)) (some p) none) none) none) none) none) none
 | _,_,_=>none
def idV (v:V):Option Nat:=match v with
 | .ok (.ptr i _)=>some i
 | _=>none
def MF (ops:Array Oper) (e0:Env) (vs:List Zc) (j:Nat):Option Nat :=
 match (ops.toList[j]?).bind XK with
 | some a=>idV (Zn (vs.take j).reverse e0 (Q7 j (JU ops.toList 0 .nil j) a))
 | none=>none
def LG (a b:Option Nat):Bool:=match a,b with
 | some i,some j=>sel (Nat.beq i j) false true
 | _,_=>false
def runT (ops:Array Oper) (p:Nat) (e0:Env) (is:VX) (r:TG):Res:=match r with
 | .ok l e s ss=>sel (LG (MF ops e0 l.reverse p) (MF ops e0 l.reverse (l.length-1))) (Pf e0 is (.ok l e s ss)) .bad
 | .bad => .bad
def C4 (ops:Array Oper) (p:Nat) (is:VX) (e:Env) (s:St):Res:=runT ops p e is (MC e is [] e s [])
def Zhe (P:Program) (call:Zu) (K:ZF) (ops:Array Oper) (dis:List DI) (o:Option Nat):Zap:=match o with
 | some p=>⟨C4 ops p (Qi P call K ops dis ops.toList dis 0 .nil)⟩
 | none=>⟨fun _ _ => .bad⟩
def Uh (P:Program) (call:Zu) (K:ZF) (ops:Array Oper) (dis:List DI):Zap :=
 sel (GI P ops dis) ⟨Sj (Qi P call K ops dis ops.toList dis 0 .nil)⟩ (Zhe P call K ops dis (GJ P ops dis))
inductive CC where
 | skip | ret | bad
 | exit (i:Nat) | goto (l:Nat)
 | region (l:LD)
 | C5 (g:Zap)
 | seq (a b:CC)
 | cond (x:Z9) (a b:CC)
 | block (i:Nat) (b:CC)
 | loop (b:CC)
 | scope (b:CC) (l:Code)
abbrev XL:=Nat→Option Zap
def Zen (P:Program) (call:Zu) (K:ZF) (ops:Array Oper) (d:Bool) (g:Option Zap):CC:=match g with
 | some g => .C5 g
 | none=>sel d (.C5 (Uh P call K ops (QH P ops ops.toList (Zx ops.toList [])))) (.region (Js P call K ops ops.toList 0 .nil))
def cc (P:Program) (call:Zu) (K:ZF) (kn:XL):Code→CC
 | .skip => .skip
 | .label _ => .skip
 | .ret => .ret
 | .exit i => .exit i
 | .goto l => .goto l
 | .region id ops d=>Zen P call K ops d (kn id)
 | .seq a b => .seq (cc P call K kn a) (cc P call K kn b)
 | .cond x a b => .cond (Q7 0 .nil x) (cc P call K kn a) (cc P call K kn b)
 | .block i b => .block i (cc P call K kn b)
 | .loop b => .loop (cc P call K kn b)
 | .scope b => .scope (cc P call K kn b) b
 | _ => .bad
def GK (k:Env→St→Res) (r:Res):Res :=
 @Res.rec (fun _=>Res) (fun x e s=>@Ex.rec (fun _=>Res) (k e s) (fun i => .ok (.exit i) e s) (fun l => .ok (.goto l) e s) (.ok .ret e s) x) .bad r
def TH (i:Nat) (r:Res):Res :=
 @Res.rec (fun _=>Res) (fun x e s=>@Ex.rec (fun _=>Res) (.ok .normal e s) (fun j=>sel (Nat.beq i j) (.ok .normal e s) (.ok (.exit j) e s)) (fun l => .ok (.goto l) e s) (.ok .ret e s) x) .bad r
def Zeo (a b:Env→St→Res) (e:Env) (s:St) (t:Option Bool):Res :=
 @Option.rec Bool (fun _=>Res) .bad (fun t=>@Bool.rec (fun _=>Res) (b e s) (a e s) t) t
def Zau (a b:Env→St→Res) (e:Env) (s:St) (v:V):Res :=
 @V.rec (fun _=>Res) (fun v=>Zeo a b e s (X0 v)) .bad v
def Zav (f:Env→St→Res) (n:Nat):Env→St→Res :=
 @Nat.rec (fun _=>Env→St→Res) (fun _ _ => .bad) (fun _ ih e s=>GK ih (f e s)) n
def Zaw (ex:CC→Env→St→Res) (again:Res→Res) (l:Nat) (e:Env) (s:St) (c:Option CC):Res:=match c with
 | some c=>again (ex c e s)
 | none => .ok (.goto l) e s
def C6 (ex:CC→Env→St→Res) (rest:Nat→Option CC) (again:Res→Res) (r:Res):Res:=match r with
 | .ok (.goto l) e s=>Zaw ex again l e s (rest l)
 | r=>r
def LH (ex:CC→Env→St→Res) (rest:Nat→Option CC) (n:Nat):Res→Res :=
 @Nat.rec (fun _=>Res→Res) (fun _ => .bad) (fun _ ih r=>C6 ex rest ih r) n
def DG (P:Program) (call:Zu) (K:ZF) (kn:XL) (b:Code) (l:Nat):Option CC:=match findLabel b l with
 | some c=>some (cc P call K kn c)
 | none=>none
def Zhf (sc:Code→Res→Res) (fuel:Nat) (c:CC):Env→St→Res :=
 @CC.rec (fun _=>Env→St→Res)
  (fun e s => .ok .normal e s) (fun e s => .ok .ret e s) (fun _ _ => .bad)
  (fun i e s => .ok (.exit i) e s) (fun l e s => .ok (.goto l) e s)
  (fun l=>DE l)
  (fun g=>g.run)
  (fun _ _ fa fb e s=>GK fb (fa e s))
  (fun x _ _ fa fb e s=>Zau fa fb e s (Zn [] e x))
  (fun i _ fb e s=>TH i (fb e s))
  (fun _ fb=>Zav fb fuel)
  (fun _ b fb e s=>sc b (fb e s)) c
def M6 (P:Program) (call:Zu) (K:ZF) (kn:XL) (fuel:Nat) (n:Nat):CC→Env→St→Res :=
 @Nat.rec (fun _=>CC→Env→St→Res) (fun _ _ _ => .bad)
  (fun _ ih c=>Zhf (fun b r=>LH ih (DG P call K kn b) fuel r) fuel c) n
def Km (K:ZF):Nat→Env→List Zc→Env
 | _,e,[]=>e
 | i,e,v::l=>Km K (i+1) (sel (K.Zi i) (e.set i (some v)) e) l
inductive RV where
 | tmp (p:List Bool)
 | cell (p:List Bool) (t:Pt)
def ZcY (P:Program) (r:ResultVar):RV:=match r with
 | .tmp t => .tmp (bits t)
 | .cell a t => .cell (bits a) (Jr P t)
def Xo (P:Program):List ResultVar→List RV
 | []=>[]
 | r::l=>ZcY P r::Xo P l
def Zax (s:St) (t:Pt) (o:Option Zc):V:=match o with
 | some v=>MN s t v
 | none => .bad
def LI (e:Env) (s:St) (r:RV):V:=match r with
 | .tmp p=>V.ofO (Tr.RQ p e)
 | .cell p t=>Zax s t (Tr.RQ p e)
def KZ (e:Env) (s:St):List RV→Option (List Zc)
 | []=>some []
 | r::l=>Cv (LI e s r) (KZ e s l)
def ZcZ (o:Option (List Zc)):V:=match o with
 | some [v] => .ok v
 | some vs => .ok (.tuple vs)
 | none => .bad
def Y0 (l:List RV) (r:Res):R:=match r with
 | .ok .normal e s=>V.ret s (ZcZ (KZ e s l))
 | .ok .ret e s=>V.ret s (ZcZ (KZ e s l))
 | _ => .bad
inductive FC where
 | mk (c:CC) (l:List RV) (K:ZF)
 | bad
def fcB (P:Program) (call:Zu) (Zi:YW) (kn:XL) (fn:Func) (b:Option Code):FC:=match b with
 | some b => .mk (cc P call ⟨fn.ntmps,Zi⟩ kn b) (Xo P fn.results.toList) ⟨fn.ntmps,Zi⟩
 | none => .bad
def Zc0 (P:Program) (call:Zu) (Zi:YW) (kn:XL) (fn:Option Func):FC:=match fn with
 | some fn=>fcB P call Zi kn fn fn.body
 | none => .bad
structure Orc where
 run:List Zc→St→R
structure VO where
 fn:FuncId→Option Func
 Zi:FuncId→YW
 reg:FuncId→XL
 orc:FuncId→Option Orc
def TI (P:Program) (call:Zu) (kn:XL) (fuel:Nat) (args:List Zc) (s:St) (f:FC):R:=match f with
 | .mk c l K=>Y0 l (M6 P call K kn fuel fuel c (Km K 0 .lf args) s)
 | .bad => .bad
def Pg (P:Program) (B:VO) (call:Zu) (fuel:Nat) (f:FuncId) (args:List Zc) (s:St) (o:Option Orc):R :=
 @Option.rec Orc (fun _=>R) (TI P call (B.reg f) fuel args s (Zc0 P call (B.Zi f) (B.reg f) (B.fn f))) (fun g=>g.run args s) o
end
end Go.Proofs.YtheflbaejhlboaaGreatDoor.Ev
namespace Go.Proofs.YtheflbaejhlboaaGreatDoor.Ev
open Go
variable [Sig] {P:Program}
def Cx (r:Rho) (l:List Zc) (e:Env) (co:Cod) (a:Act) (o:Op):Prop:=∀ x∈o.operands,∀ v,Zn l e (co x) = .ok v→VR r v (a.eval x)
def Yes (P:Program) (r:Rho) (w:World) (x:Sem Next) (v:Zc):Prop:=∃ u,x.run P w = .ok (.value u) w∧VR r v u
def GL (P:Program) (r:Rho) (w:World) (x:Sem Next) (mk:Nat→Zc) (b:Zd):Prop :=
 ∃ w' u y o,x.run P w = .ok (.value u) w'∧(y.blk=w.heap.size∧y.gho=none)∧w'.heap[y.blk]? = some o∧(∀ k,k<w.heap.size→w'.heap[k]? = w.heap[k]?)∧w.heap.size≤w'.heap.size ∧
  w'.os=w.os∧w'.tape=w.tape∧w'.output=w.output∧∀ i,r i=none→BR (r.at i y) b y o∧VR (r.at i y) (mk i) u
def LJ (P:Program) (o:Oper) (a:Act) (r:Rho) (s:St) (w:World) (v:Zc) (s':St):Prop :=
 ∀ (K:Act→World→Prop) (Q:Exit→Act→World→Prop),(∀ q u w',Ext r s w q s' w'→VR q v u→K (a.put o.dst u) w')→o.wp P a w K Q
def Rr (P:Program) (o:Oper) (co:Cod) (l:List Zc) (e:Env) (s:St) (v:Zc) (s':St):Kd→Prop
 | .pure=>s'=s∧∀ r w a,Cx r l e co a o.op→Yes P r w (execOp a.eval o) v
 | .look=>s'=s∧∀ r w a,RelB r s w→Cx r l e co a o.op→Yes P r w (execOp a.eval o) v
 | .make=>∃ mk b,v=mk s.next∧s'=s.new b∧∀ r w a,Cx r l e co a o.op→GL P r w (execOp a.eval o) mk b
 | .eff=>∀ r w a,Rel r s w→Cx r l e co a o.op→LJ P o a r s w v s'
theorem Yes.ok {o:Oper} {a:Act} {r:Rho} {s:St} {w:World} {v:Zc} (h:Rel r s w) (hy:Yes P r w (execOp a.eval o) v):LJ P o a r s w v s:=by
 obtain ⟨u,h1,h2⟩:=hy
 intro K Q hK
 unfold Oper.wp
 rw [h1]
 exact hK r u w (Ext.refl h) h2
theorem GL.ok {o:Oper} {a:Act} {r:Rho} {s:St} {w:World} {mk:Nat→Zc} {b:Zd} (h:Rel r s w) (hm:GL P r w (execOp a.eval o) mk b):LJ P o a r s w (mk s.next) (s.new b):=by
 obtain ⟨w',u,y,o',h1,h2,h3,h4,h5,h6,h7,h8,h9⟩:=hm
 obtain ⟨h10,h11⟩:=h9 s.next (h.Z7 (Nat.le_refl _))
 intro K Q hK
 unfold Oper.wp
 rw [h1]
 exact hK _ u w' (Ext.new h h2.1 h3 h10 h4 h5 h6 h7 h8 h2.2) h11
theorem Rr.ok {o:Oper} {co:Cod} {l:List Zc} {e:Env} {s s':St} {v:Zc} {k:Kd} (h:Rr P o co l e s v s' k) {r:Rho} {w:World} {a:Act} (hr:Rel r s w) (hc:Cx r l e co a o.op) :
  LJ P o a r s w v s':=by
 cases k with
 | pure=>obtain ⟨rfl,h1⟩:=h; exact (h1 r w a hc).ok hr
 | look=>obtain ⟨rfl,h1⟩:=h; exact (h1 r w a hr.toRelB hc).ok hr
 | make=>obtain ⟨mk,b,rfl,rfl,h1⟩:=h; exact (h1 r w a hc).ok hr
 | eff=>exact h r w a hr hc
theorem ZO.yes {r:Rho} {w:World} {x:Sem Value} {v:Zc} (h:ZO P r w x v):Yes P r w (do pure (.value (← x))) v:=by
 obtain ⟨u,h1,h2⟩:=h
 exact ⟨u,by simp only [Sem.run_bind,h1,Result.andThen_ok,Sem.run_pure],h2⟩
theorem Make.next {r:Rho} {w:World} {x:Sem Value} {mk:Nat→Zc} {b:Zd} (h:Make P r w x mk b):GL P r w (do pure (.value (← x))) mk b:=by
 obtain ⟨w',u,y,o,h1,h2⟩:=h
 exact ⟨w',u,y,o,by simp only [Sem.run_bind,h1,Result.andThen_ok,Sem.run_pure],h2⟩
theorem VN.op {o:Oper} {a:Act} {r:Rho} {s s':St} {w:World} {x:Sem Value} {v:Zc} (h:VN P r s w x v s') (he:execOp a.eval o=(do pure (.value (← x)))):LJ P o a r s w v s':=by
 obtain ⟨q,w',u,h1,h2,h3⟩:=h
 intro K Q hK
 unfold Oper.wp
 rw [he]
 simp only [Sem.run_bind,h1,Result.andThen_ok,Sem.run_pure]
 exact hK q u w' h3 h2
theorem Gz.op {o:Oper} {a:Act} {r:Rho} {s s':St} {w:World} {x:Sem Unit} (h:Gz P r s w x s') (he:execOp a.eval o=(do x; pure .skip)):LJ P o a r s w Qu s':=by
 obtain ⟨q,w',h1,h3⟩:=h
 intro K Q hK
 unfold Oper.wp
 rw [he]
 simp only [Sem.run_bind,h1,Result.andThen_ok,Sem.run_pure]
 exact hK q undef w' h3 (.tuple .nil)
theorem XC {r:Rho} {l:List Zc} {e:Env} {co:Cod} {a:Act}:∀ (xs:List Operand) {vs:List Zc},(∀ x∈xs,∀ v,Zn l e (co x) = .ok v→VR r v (a.eval x)) →
  WC l e (Kv co xs)=some vs→VRs r vs (xs.map a.eval)
 | [],vs,_,h=>by cases h; exact .nil
 | x::xs,vs,hx,h=>by
  have h:Cv (Zn l e (co x)) (WC l e (Kv co xs))=some vs:=h
  cases h1:Zn l e (co x) with
  | bad=>rw [h1] at h; cases h
  | ok v =>
   rw [h1] at h
   cases h2:WC l e (Kv co xs) with
   | none=>rw [h2] at h; cases h
   | some us =>
    rw [h2] at h
    cases h
    exact .cons (hx x (List.mem_cons_self ..) v h1) (XC xs (fun y hy=>hx y (List.mem_cons_of_mem _ hy)) h2)
theorem Ph {r:Rho} {l:List Zc} {e:Env} {co:Cod} {a:Act} {pl:Nat→Pt} {place:Nat→Option (Nat×Nat)} (hp:∀ i o n g,pl i = .mk o n g→place i=some (o,n)) :
  ∀ (ps:List (Nat×Operand)),(∀ p∈ps,∀ v,Zn l e (co p.2) = .ok v→VR r v (a.eval p.2))→FR2 r l e place (Vj co pl ps) (ps.map fun p=>(p.1,a.eval p.2))
 | [],_ => .nil
 | (i,x)::ps,hx => .cons (fun v hv=>hx (i,x) (List.mem_cons_self ..) v hv) (fun o n g h=>hp i o n g h) (Ph hp ps fun p hp'=>hx p (List.mem_cons_of_mem _ hp'))
theorem Pj {r:Rho} {l:List Zc} {e:Env} {co:Cod} {a:Act} {x:Option Operand} (hx:∀ y,x=some y→∀ v,Zn l e (co y) = .ok v→VR r v (a.eval y)):NR (CE l e (x.map co)) (x.map a.eval):=by
 cases x with
 | none=>rfl
 | some y =>
  show NR (onV (Zn l e (co y))) (some (a.eval y))
  cases h:onV (Zn l e (co y)) with
  | none =>
   cases h1:Zn l e (co y) with
   | bad=>rw [h1] at h; cases h
   | ok v =>
    rw [h1] at h
    have h:onO (asNat v) = .none:=h
    unfold onO at h
    split at h <;> cases h
  | bad=>trivial
  | some n =>
   obtain ⟨v,h1,h2⟩:=Zaf h
   obtain ⟨k,h3⟩:=JQ h2 (hx y rfl v h1)
   exact ⟨k,by rw [h3]⟩
end Go.Proofs.YtheflbaejhlboaaGreatDoor.Ev
namespace Go.Proofs.YtheflbaejhlboaaGreatDoor.Ev
open Go
variable [Sig] {P:Program}
theorem TJ {f:Un} {x:Z9} {l:List Zc} {e:Env} {s s':St} {v:Zc} (h:VS f x l e s = .ok v s'):∃ u,Zn l e x = .ok u∧f.run s u = .ok v s':=then_ok h
theorem M7 {f:Bi} {x y:Z9} {l:List Zc} {e:Env} {s s':St} {v:Zc} (h:Dn f x y l e s = .ok v s'):∃ a b,Zn l e x = .ok a∧Zn l e y = .ok b∧f.run s a b = .ok v s':=by
 obtain ⟨a,h1,h2⟩:=then_ok h
 obtain ⟨b,h3,h4⟩:=then_ok h2
 exact ⟨a,b,h1,h3,h4⟩
theorem toInt_st {k:IntKind} {s s':St} {x v:Zc} (h:toInt P k s x = .ok v s'):s'=s:=by
 unfold toInt at h
 split at h
 ·cases h; rfl
 ·exact (ZY h).2
 ·exact (ZY h).2
 ·cases h
theorem toFlt_st {k:FloatKind} {s s':St} {x v:Zc} (h:toFlt k s x = .ok v s'):s'=s:=by
 unfold toFlt at h
 split at h
 ·cases h; rfl
 ·cases h
theorem toStr_st {s s':St} {x v:Zc} (h:toStr s x = .ok v s'):s'=s:=by
 unfold toStr at h
 split at h
 ·cases h; rfl
 ·cases h
theorem Rs {s s':St} {x v:Zc} (h:Xl s x = .ok v s'):s'=s:=by
 unfold Xl at h
 split at h
 ·cases h; rfl
 ·unfold Di at h
  split at h
  ·obtain ⟨_,_,_,h3⟩:=MT h
   exact h3
  ·cases h
 ·cases h
theorem Zc1 {t u:TypeId} {x:Operand} {co:Cod} {l:List Zc} {e:Env} {s s':St} {v:Zc} (dst:Option Tmp) (ty:TypeId) (pos:String) (af:Array Edge) (gd:Option (Nat×Bool))
  (h:VS (Dj P t u) (co x) l e s = .ok v s'):Rr P ⟨dst,.convert t u x,ty,pos,af,gd⟩ co l e s v s' (DF P t u):=by
 obtain ⟨a,h1,h2⟩:=TJ h
 have hm:x∈(Op.convert t u x).operands:=by simp [Op.operands]
 unfold Dj at h2
 unfold DF
 cases ht:P.underlying t with
 | none=>rw [ht] at h2; cases hu:P.underlying u <;> rw [hu] at h2 <;> cases h2
 | some d =>
  cases hu:P.underlying u with
  | none=>rw [ht,hu] at h2; cases d <;> cases h2
  | some d' =>
   rw [ht,hu] at h2
   cases d <;> cases d' <;> try (cases h2; done)
   case some.some.int.int k k' =>
    have h2:toInt P k' s a = .ok v s':=h2
    exact ⟨toInt_st h2,fun r w b hc=>(toInt_ok h2 (hc x hm a h1) ht hu).2.yes⟩
   case some.some.int.float k k' =>
    have h2:toFlt k' s a = .ok v s':=h2
    exact ⟨toFlt_st h2,fun r w b hc=>(toFlt_ok h2 (hc x hm a h1) ht hu).2.yes⟩
   case some.some.float.int k k' =>
    have h2:toInt P k' s a = .ok v s':=h2
    exact ⟨toInt_st h2,fun r w b hc=>(toInt_ok h2 (hc x hm a h1) ht hu).2.yes⟩
   case some.some.string.string =>
    have h2:toStr s a = .ok v s':=h2
    exact ⟨toStr_st h2,fun r w b hc=>(toStr_ok h2 (hc x hm a h1) ht hu).2.yes⟩
   case some.some.string.slice el =>
    have h2:(sel (Mr P el) ⟨YF⟩ Li).run s a = .ok v s':=h2
    cases hi:Mr P el
    ·rw [hi] at h2; cases h2
    ·rw [hi] at h2
     obtain ⟨mk,b,h3,h4,h5⟩:=MB h2 ht hu hi
     exact ⟨mk,b,h3,h4,fun r w b hc=>(h5 r w _ (hc x hm a h1)).next⟩
   case some.some.slice.string el =>
    have h2:(sel (Mr P el) ⟨Xl⟩ Li).run s a = .ok v s':=h2
    cases hi:Mr P el
    ·rw [hi] at h2; cases h2
    ·rw [hi] at h2
     exact ⟨Rs h2,fun r w b hr hc=>by
      have h3:=Rs h2
      subst h3
      exact (MA hr h2 (hc x hm a h1) ht hu hi).2.yes⟩
theorem DH {t:TypeId} {s s':St} {x v:Zc} (h:(YG P t).run s x = .ok v s'):s'=s:=by
 unfold YG at h
 split at h
 ·cases h
 ·cases h; rfl
 ·cases h
theorem GM {t:TypeId} {ok:Bool} {s s':St} {x v:Zc} (h:(WG P t ok).run s x = .ok v s'):s'=s:=by
 unfold WG at h
 split at h
 ·cases h
 ·have h:YH t ok s x = .ok v s':=h
  unfold YH at h
  split at h
  ·obtain ⟨_,h⟩:=Zr h
   cases h; rfl
  ·cases h
 ·cases h
theorem Zc2 {r:Rho} {w:World} {x:Zc} {u:Value} (h:ZeZ x=true) (hx:VR r x u) (o:Oper) (a:Act) (y:Operand) (ho:o.op = .nilCheck y) (hy:a.eval y=u):(execOp a.eval o).run P w = .ok (.value u) w:=by
 unfold ZeZ at h
 split at h
 ·cases hx; simp [execOp,ho,hy]
 ·cases hx; simp [execOp,ho,hy]
 ·cases hx; simp [execOp,ho,hy]
 ·cases h
theorem Zc3 {co:Cod} {call:Zu} {o:Oper} {l:List Zc} {e:Env} {s s':St} {v:Zc} (hcall:∀ c,o.op ≠ .call c) (h:(comp co P call o.op).run l e s = .ok v s') :
  Rr P o co l e s v s' (KG P o.op):=by
 obtain ⟨dst,op,ty,pos,af,gd⟩:=o
 cases op with
 | move x =>
  obtain ⟨h1,h2⟩:=ZY h
  exact ⟨h2,fun r w a hc=>⟨a.eval x,rfl,hc x (by simp [Op.operands]) v h1⟩⟩
 | assign x =>
  obtain ⟨h1,h2⟩:=ZY h
  exact ⟨h2,fun r w a hc=>⟨a.eval x,rfl,hc x (by simp [Op.operands]) v h1⟩⟩
 | pick c x y =>
  obtain ⟨b,h1,h2⟩:=then_ok h
  unfold Zd4 X0 at h2
  split at h2
  ·rename_i b
   cases b
   ·obtain ⟨h3,h4⟩:=ZY h2
    refine ⟨h4,fun r w a hc=>⟨a.eval y,?_,hc y (by simp [Op.operands]) v h3⟩⟩
    have h5:=hc c (by simp [Op.operands]) _ h1
    generalize hg:a.eval c=g at h5
    cases h5
    simp [execOp,hg,asBool]
   ·obtain ⟨h3,h4⟩:=ZY h2
    refine ⟨h4,fun r w a hc=>⟨a.eval x,?_,hc x (by simp [Op.operands]) v h3⟩⟩
    have h5:=hc c (by simp [Op.operands]) _ h1
    generalize hg:a.eval c=g at h5
    cases h5
    simp [execOp,hg,asBool]
  ·cases h2
 | alloc t =>
  have h:Sb (XZ P t) l e s = .ok v s':=h
  unfold Sb at h
  split at h
  ·rename_i z hz
   cases h
   exact ⟨fun i => .ptr i 0,_,rfl,rfl,fun r w a hc=>(Zaj hz _).next⟩
  ·cases h
 | box t x =>
  obtain ⟨u,h1,h2⟩:=then_ok h
  cases h2
  exact ⟨fun i => .ptr i 0,_,rfl,rfl,fun r w a hc=>(Zfk (hc x (by simp [Op.operands]) u h1)).next⟩
 | build t ps =>
  have h:Lf (SC P t) (Vj co (Ki P t) ps.toList) l e s = .ok v s':=h
  unfold Lf at h
  split at h
  ·rename_i z hz
   unfold ZgX at h
   split at h
   ·rename_i cs hf
    cases h
    refine ⟨rfl,fun r w a hc=>(Zak (P:=P) (l:=l) (e:=e) hz (fun place hp => ?_) hf).yes⟩
    rw [Array.toList_map]
    exact Ph hp ps.toList fun p hp' v hv=>hc p.2 (by simp only [Op.operands,List.mem_toArray,List.mem_map]; exact ⟨p,hp',rfl⟩) v hv
   ·cases h
  ·cases h
 | buildSlice t n ps =>
  have h:KT (JH P t) (Jf P t) n (Vj co (EZ (Jf P t)) ps.toList) l e s = .ok v s':=h
  unfold KT at h
  split at h
  ·rename_i z e0 sz g hz hel
   obtain ⟨h1,h⟩:=WO h
   obtain ⟨h2,h⟩:=Zr h
   unfold Ge at h
   split at h
   ·rename_i cs hf
    cases h
    refine ⟨fun i => .slice i 0 n none,_,rfl,rfl,fun r w a hc=>(Mz (P:=P) (l:=l) (e:=e) hz hel (Je h1) (Z6 h2) (fun place hp => ?_) hf).next⟩
    rw [Array.toList_map]
    refine Ph (fun i o n g hi => ?_) ps.toList fun p hp' v hv=>hc p.2 (by simp only [Op.operands,List.mem_toArray,List.mem_map]; exact ⟨p,hp',rfl⟩) v hv
    rw [hel] at hi
    cases hi
    exact hp i
   ·cases h
  ·cases h
 | load t x =>
  obtain ⟨u,h1,h2⟩:=then_ok h
  obtain ⟨h3,h4⟩:=ZY h2
  subst h4
  exact ⟨rfl,fun r w a hr hc=>(Gv hr h3 (hc x (by simp [Op.operands]) u h1)).yes⟩
 | store t x y =>
  obtain ⟨u,h1,h2⟩:=then_ok h
  obtain ⟨p,h3,h4⟩:=then_ok h2
  intro r w a hr hc
  obtain ⟨rfl,h5⟩:=B9 hr h4 (hc y (by simp [Op.operands]) u h1) (hc x (by simp [Op.operands]) p h3)
  exact h5.op rfl
 | nilCheck x =>
  obtain ⟨u,h1,h2⟩:=then_ok h
  obtain ⟨h3,h4⟩:=Zr h2
  cases h4
  exact ⟨rfl,fun r w a hc=>⟨a.eval x,Zc2 h3 (hc x (by simp [Op.operands]) _ h1) _ a x rfl rfl,hc x (by simp [Op.operands]) _ h1⟩⟩
 | binOp op t x y t' =>
  obtain ⟨u,h1,h2⟩:=then_ok h
  obtain ⟨p,h3,h4⟩:=then_ok h2
  obtain ⟨h5,h6⟩:=ZY h4
  exact ⟨h6,fun r w a hc=>(Zfe h5 (hc x (by simp [Op.operands]) u h1) (hc y (by simp [Op.operands]) p h3) x y).yes⟩
 | unOp op t x =>
  obtain ⟨u,h1,h2⟩:=then_ok h
  obtain ⟨h5,h6⟩:=ZY h2
  exact ⟨h6,fun r w a hc=>(Zhd h5 (hc x (by simp [Op.operands]) u h1)).yes⟩
 | convert t u x=>exact Zc1 dst ty pos af gd h
 | makeInterface t x =>
  obtain ⟨u,h1,h2⟩:=then_ok h
  exact ⟨DH h2,fun r w a hc=>(DC h2 (hc x (by simp [Op.operands]) u h1)).2.yes⟩
 | makeMap t n =>
  cases n with
  | some x=>cases h
  | none =>
   cases h
   exact ⟨fun i => .map i,_,rfl,rfl,fun r w a hc=>Dx.next⟩
 | makeFunc fn fi ca =>
  cases fn with
  | func f =>
   have h:Dk f (Kv co fi.toList) (Kv co ca.toList) l e s = .ok v s':=h
   unfold Dk at h
   split at h
   ·rename_i vs us h1 h2
    cases h
    refine ⟨rfl,fun r w a hc => ?_⟩
    have h3:=XC (a:=a) fi.toList (fun x hx=>hc x (by simp only [Op.operands,Array.mem_append]; exact .inl (by simpa using hx))) h1
    have h4:=XC (a:=a) ca.toList (fun x hx=>hc x (by simp only [Op.operands,Array.mem_append]; exact .inr (by simpa using hx))) h2
    refine ⟨.func (.func f) (fi.map a.eval) (ca.map a.eval),rfl,?_⟩
    have h5:=VR.func f h3 h4
    rw [← Array.toList_map,← Array.toList_map] at h5
    exact h5
   ·cases h
  | _=>cases h
 | makeSlice t n c =>
  obtain ⟨u,h1,h2⟩:=then_ok h
  obtain ⟨p,h3,h4⟩:=then_ok h2
  unfold CD at h4
  split at h4
  ·rename_i z e0 sz g n' c' hz hel hn hc'
   obtain ⟨h5,h4⟩:=WO h4
   obtain ⟨h6,h4⟩:=Zr h4
   unfold EN at h4
   obtain ⟨h7,h4⟩:=Zr h4
   obtain ⟨h8,h4⟩:=Zr h4
   cases h4
   refine ⟨fun i => .slice i 0 n' (some c'),_,rfl,rfl,fun r w a hc => ?_⟩
   obtain ⟨k,h9⟩:=JQ hn (hc n (by simp [Op.operands]) u h1)
   obtain ⟨k',h10⟩:=JQ hc' (hc c (by simp [Op.operands]) p h3)
   have h11:=B8 (P:=P) (r:=r) (w:=w) (k:=k) (k':=k') h6 hz hel (Je h5) (Z6 h7) (Z6 h8)
   have h12:=h11.next
   show GL P r w (do pure (.value (← Instr.makeSlice t (a.eval n) (a.eval c)))) _ _
   rw [h9,h10]
   exact h12
  ·cases h4
 | slice t x lo hi mx =>
  obtain ⟨u,h1,h2⟩:=then_ok h
  obtain ⟨h3,h4⟩:=ZY h2
  subst h4
  obtain ⟨g1,h3⟩:=ZM h3
  obtain ⟨g2,h3⟩:=ZM h3
  obtain ⟨g3,h3⟩:=ZM h3
  refine ⟨rfl,fun r w a hr hc=>(B5 hr g1 g2 g3 (Pj (x:=lo) fun y hy=>hc y ?_) (Pj (x:=hi) fun y hy=>hc y ?_) (Pj (x:=mx) fun y hy=>hc y ?_) h3 (hc x ?_ u h1)).yes⟩
  ·subst hy; simp [Op.operands]
  ·subst hy; simp [Op.operands]
  ·subst hy; simp [Op.operands]
  ·simp [Op.operands]
 | fieldAddr t x f =>
  obtain ⟨u,h1,h2⟩:=then_ok h
  obtain ⟨h3,h4⟩:=ZY h2
  exact ⟨h4,fun r w a hc=>(Dv h3 (hc x (by simp [Op.operands]) u h1)).yes⟩
 | field t x f =>
  obtain ⟨u,h1,h2⟩:=then_ok h
  obtain ⟨h3,h4⟩:=ZY h2
  exact ⟨h4,fun r w a hc=>(Du h3 (hc x (by simp [Op.operands]) u h1)).yes⟩
 | indexAddr t x i =>
  obtain ⟨u,h1,h2⟩:=then_ok h
  obtain ⟨p,h5,h6⟩:=then_ok h2
  obtain ⟨h3,h4⟩:=ZY h6
  exact ⟨h4,fun r w a hc=>(B1 h3 (hc x (by simp [Op.operands]) p h5) (hc i (by simp [Op.operands]) u h1)).yes⟩
 | index t x i =>
  obtain ⟨u,h1,h2⟩:=then_ok h
  obtain ⟨p,h5,h6⟩:=then_ok h2
  obtain ⟨h3,h4⟩:=ZY h6
  exact ⟨h4,fun r w a hc=>(Zab h3 (hc x (by simp [Op.operands]) p h5) (hc i (by simp [Op.operands]) u h1)).yes⟩
 | lookup t m k ok =>
  obtain ⟨u,h1,h2⟩:=then_ok h
  obtain ⟨p,h5,h6⟩:=then_ok h2
  obtain ⟨h3,h4⟩:=ZY h6
  subst h4
  exact ⟨rfl,fun r w a hr hc=>(Zah hr h3 (hc k (by simp [Op.operands]) u h1) (hc m (by simp [Op.operands]) p h5)).yes⟩
 | mapUpdate t m k x =>
  obtain ⟨u,h1,h2⟩:=then_ok h
  obtain ⟨p,h3,h4⟩:=then_ok h2
  obtain ⟨q,h5,h6⟩:=then_ok h4
  intro r w a hr hc
  obtain ⟨rfl,h7⟩:=ZcT hr h6 (hc k (by simp [Op.operands]) u h1) (hc x (by simp [Op.operands]) p h3) (hc m (by simp [Op.operands]) q h5)
  exact h7.op rfl
 | mapEntry t m k =>
  obtain ⟨u,h1,h2⟩:=then_ok h
  obtain ⟨p,h3,h4⟩:=then_ok h2
  intro r w a hr hc
  exact (B6 hr h4 (hc k (by simp [Op.operands]) u h1) (hc m (by simp [Op.operands]) p h3)).op rfl
 | entryStore t m st x =>
  obtain ⟨u,h1,h2⟩:=then_ok h
  obtain ⟨p,h3,h4⟩:=then_ok h2
  obtain ⟨q,h5,h6⟩:=then_ok h4
  intro r w a hr hc
  obtain ⟨rfl,h7⟩:=B7 (t:=t) hr h6 (hc st (by simp [Op.operands]) u h1) (hc x (by simp [Op.operands]) p h3) (hc m (by simp [Op.operands]) q h5)
  exact h7.op rfl
 | range t x =>
  obtain ⟨u,h1,h2⟩:=then_ok h
  obtain ⟨h3,h4⟩:=Zr h2
  intro r w a hr hc
  exact (Ud h3 hr h4 (hc x (by simp [Op.operands]) u h1)).op rfl
 | next it b =>
  cases b with
  | true=>cases h
  | false =>
   obtain ⟨u,h1,h2⟩:=then_ok h
   intro r w a hr hc
   exact (Zai hr h2 (hc it (by simp [Op.operands]) u h1)).op rfl
 | entry it =>
  obtain ⟨u,h1,h2⟩:=then_ok h
  obtain ⟨h3,h4⟩:=ZY h2
  subst h4
  exact ⟨rfl,fun r w a hr hc=>(ZcX hr h3 (hc it (by simp [Op.operands]) u h1)).yes⟩
 | typeAssert x t u ok =>
  obtain ⟨p,h1,h2⟩:=then_ok h
  exact ⟨GM h2,fun r w a hc=>(GH h2 (hc x (by simp [Op.operands]) p h1)).2.yes⟩
 | extract x i =>
  obtain ⟨u,h1,h2⟩:=then_ok h
  obtain ⟨h3,h4⟩:=ZY h2
  exact ⟨h4,fun r w a hc=>(Zac h3 (hc x (by simp [Op.operands]) u h1)).yes⟩
 | call c=>exact absurd rfl (hcall c)
 | _=>cases h
end Go.Proofs.YtheflbaejhlboaaGreatDoor.Ev
namespace Go.Proofs.YtheflbaejhlboaaGreatDoor.Ev
open Go
variable [Sig] {P:Program}
def Xt (P:Program) (f:FuncId) (us:Array Value) (w:World) (R:Value→World→Prop):Prop :=
 (∃ u w',(callFunc f us).run P w = .ok (.value u) w'∧R u w')∨((callFunc f us).run P w = .ok (.enter f us) w∧Calls P f us w (fun e w'=>∃ u,e = .returned u∧R u w'))
def ZZ (P:Program) (call:Zu):Prop :=
 ∀ (f:FuncId) (args:List Zc) (s:St) (v:Zc) (s':St),call f args s = .ok v s'→∀ (r:Rho) (w:World) (us:List Value),Rel r s w→VRs r args us →
  Xt P f ⟨us⟩ w fun u w'=>∃ q,Ext r s w q s' w'∧VR q v u
theorem Xt.op {o:Oper} {a:Act} {r:Rho} {s s':St} {w:World} {v:Zc} {f:FuncId} {us:Array Value} (h:Xt P f us w fun u w'=>∃ q,Ext r s w q s' w'∧VR q v u)
  (he:(execOp a.eval o).run P w=(callFunc f us).run P w):LJ P o a r s w v s':=by
 intro K Q hK
 unfold Oper.wp
 rw [he]
 rcases h with ⟨u,w',h1,q,h2,h3⟩ | ⟨h1,h2⟩
 ·rw [h1]
  exact hK q u w' h2 h3
 ·rw [h1]
  refine Calls.mono h2 fun e w'' he => ?_
  obtain ⟨u,rfl,q,h3,h4⟩:=he
  exact hK q u w'' h3 h4
theorem Zfo {co:Cod} {b:Builtin} {x:Operand} {t:TypeId} {ts:List TypeId} {l:List Zc} {e:Env} {s s':St} {v:Zc} (dst:Option Tmp) (ty:TypeId) (pos:String) (af:Array Edge) (gd:Option (Nat×Bool))
  (h:bi1 P b (co x) t l e s = .ok v s') :
  Rr P ⟨dst,.call ⟨.builtin b,#[x],⟨t::ts⟩⟩,ty,pos,af,gd⟩ co l e s v s' (LF ⟨.builtin b,#[x],⟨t::ts⟩⟩):=by
 have hm:x∈(Op.call ⟨.builtin b,#[x],⟨t::ts⟩⟩).operands:=by simp [Op.operands,Call.operands]
 have ht:(⟨t::ts⟩:Array TypeId)[0]? = some t:=rfl
 cases b <;> try (cases h; done)
 case len =>
  obtain ⟨u,h1,h2⟩:=TJ h
  obtain ⟨h3,h4⟩:=ZY h2
  subst h4
  refine ⟨rfl,fun r w a hr hc => ?_⟩
  have he:execOp a.eval ⟨dst,.call ⟨.builtin .len,#[x],⟨t::ts⟩⟩,ty,pos,af,gd⟩=(do pure (.value (← Builtin.len_ ⟨t::ts⟩ ty #[a.eval x]))):=by
   simp only [execOp,resolve,List.map_toArray,List.map_cons,List.map_nil]; rfl
  rw [he]
  exact (ZcO ht hr h3 (hc x hm u h1)).yes
 case cap =>
  obtain ⟨u,h1,h2⟩:=TJ h
  obtain ⟨h3,h4⟩:=ZY h2
  subst h4
  refine ⟨rfl,fun r w a hr hc => ?_⟩
  have he:execOp a.eval ⟨dst,.call ⟨.builtin .cap,#[x],⟨t::ts⟩⟩,ty,pos,af,gd⟩=(do pure (.value (← Builtin.cap_ ⟨t::ts⟩ ty #[a.eval x]))):=by
   simp only [execOp,resolve,List.map_toArray,List.map_cons,List.map_nil]; rfl
  rw [he]
  exact (ZcP ht hr h3 (hc x hm u h1)).yes
 case clear =>
  obtain ⟨u,h1,h2⟩:=TJ h
  intro r w a hr hc
  refine (Zam (ty:=ty) ht hr h2 (hc x hm u h1)).op ?_
  simp only [execOp,resolve,List.map_toArray,List.map_cons,List.map_nil]; rfl
 case real =>
  obtain ⟨u,h1,h2⟩:=TJ h
  obtain ⟨h3,h4⟩:=ZY h2
  refine ⟨h4,fun r w a hc => ?_⟩
  have he:execOp a.eval ⟨dst,.call ⟨.builtin .real,#[x],⟨t::ts⟩⟩,ty,pos,af,gd⟩=(do pure (.value (← Builtin.real_ ⟨t::ts⟩ ty #[a.eval x]))):=by
   simp only [execOp,resolve,List.map_toArray,List.map_cons,List.map_nil]; rfl
  rw [he]
  exact (Zff h3 (hc x hm u h1)).yes
 case imag =>
  obtain ⟨u,h1,h2⟩:=TJ h
  obtain ⟨h3,h4⟩:=ZY h2
  refine ⟨h4,fun r w a hc => ?_⟩
  have he:execOp a.eval ⟨dst,.call ⟨.builtin .imag,#[x],⟨t::ts⟩⟩,ty,pos,af,gd⟩=(do pure (.value (← Builtin.imag_ ⟨t::ts⟩ ty #[a.eval x]))):=by
   simp only [execOp,resolve,List.map_toArray,List.map_cons,List.map_nil]; rfl
  rw [he]
  exact (Zfg h3 (hc x hm u h1)).yes
theorem Zfp {co:Cod} {b:Builtin} {x y:Operand} {t:TypeId} {ts:List TypeId} {l:List Zc} {e:Env} {s s':St} {v:Zc} (dst:Option Tmp) (ty:TypeId) (pos:String) (af:Array Edge) (gd:Option (Nat×Bool))
  (h:bi2 P b (co x) (co y) t ts.head? l e s = .ok v s') :
  Rr P ⟨dst,.call ⟨.builtin b,#[x,y],⟨t::ts⟩⟩,ty,pos,af,gd⟩ co l e s v s' (LF ⟨.builtin b,#[x,y],⟨t::ts⟩⟩):=by
 have hm:x∈(Op.call ⟨.builtin b,#[x,y],⟨t::ts⟩⟩).operands:=by simp [Op.operands,Call.operands]
 have hn:y∈(Op.call ⟨.builtin b,#[x,y],⟨t::ts⟩⟩).operands:=by simp [Op.operands,Call.operands]
 have ht:(⟨t::ts⟩:Array TypeId)[0]? = some t:=rfl
 have ht2:(⟨t::ts⟩:Array TypeId)[1]? = ts.head? := by cases ts <;> rfl
 cases b <;> try (cases h; done)
 case append =>
  obtain ⟨u,p,h1,h2,h3⟩:=M7 h
  intro r w a hr hc
  refine (Ub (ty:=ty) ht ht2 hr h3 (hc x hm u h1) (hc y hn p h2)).op ?_
  simp only [execOp,resolve,List.map_toArray,List.map_cons,List.map_nil]; rfl
 case copy =>
  obtain ⟨u,p,h1,h2,h3⟩:=M7 h
  intro r w a hr hc
  refine (ZcV (ty:=ty) ht hr h3 (hc x hm u h1) (hc y hn p h2)).op ?_
  simp only [execOp,resolve,List.map_toArray,List.map_cons,List.map_nil]; rfl
 case delete =>
  obtain ⟨u,p,h1,h2,h3⟩:=M7 h
  intro r w a hr hc
  refine (ZcU (ty:=ty) ht hr h3 (hc y hn p h2) (hc x hm u h1)).op ?_
  simp only [execOp,resolve,List.map_toArray,List.map_cons,List.map_nil]; rfl
 case complex =>
  obtain ⟨u,p,h1,h2,h3⟩:=M7 h
  obtain ⟨h3,h4⟩:=ZY h3
  refine ⟨h4,fun r w a hc => ?_⟩
  have he:execOp a.eval ⟨dst,.call ⟨.builtin .complex,#[x,y],⟨t::ts⟩⟩,ty,pos,af,gd⟩=(do pure (.value (← Builtin.complex_ ⟨t::ts⟩ ty #[a.eval x,a.eval y]))):=by
   simp only [execOp,resolve,List.map_toArray,List.map_cons,List.map_nil]; rfl
  rw [he]
  exact (Zfh h3 (hc x hm u h1) (hc y hn p h2)).yes
 case max =>
  obtain ⟨u,p,h1,h2,h3⟩:=M7 h
  obtain ⟨h3,h4⟩:=ZY h3
  refine ⟨h4,fun r w a hc => ?_⟩
  have he:execOp a.eval ⟨dst,.call ⟨.builtin .max,#[x,y],⟨t::ts⟩⟩,ty,pos,af,gd⟩=(do pure (.value (← Builtin.max_ ⟨t::ts⟩ ty #[a.eval x,a.eval y]))):=by
   simp only [execOp,resolve,List.map_toArray,List.map_cons,List.map_nil]; rfl
  rw [he]
  exact (ZcQ h3 (hc x hm u h1) (hc y hn p h2)).yes
 case min =>
  obtain ⟨u,p,h1,h2,h3⟩:=M7 h
  obtain ⟨h3,h4⟩:=ZY h3
  refine ⟨h4,fun r w a hc => ?_⟩
  have he:execOp a.eval ⟨dst,.call ⟨.builtin .min,#[x,y],⟨t::ts⟩⟩,ty,pos,af,gd⟩=(do pure (.value (← Builtin.min_ ⟨t::ts⟩ ty #[a.eval x,a.eval y]))):=by
   simp only [execOp,resolve,List.map_toArray,List.map_cons,List.map_nil]; rfl
  rw [he]
  exact (ZcR h3 (hc x hm u h1) (hc y hn p h2)).yes
theorem Pk {k:List Zc→R} {o:Option (List Zc)} {v:Zc} {s':St} (h:Gf k o = .ok v s'):∃ vs,o=some vs∧k vs = .ok v s':=by
 unfold Gf at h
 split at h
 ·exact ⟨_,rfl,h⟩
 ·cases h
theorem GN {t:TypeId} {name:String} {f:FuncId} (h:methodOf P t name=some f) :
  ∃ i m e,P.info? t=some i∧i.methods.find? (·.name==name)=some m∧m.func=some (f,true)∧P.underlying t=some (.pointer e)∧m.path.toList=[]:=by
 unfold methodOf at h
 split at h
 ·rename_i m hm
  rw [Option.bind_eq_some_iff] at hm
  obtain ⟨i,h1,h2⟩:=hm
  split at h
  ·rename_i f' e hf hu
   rcases Ze h with ⟨h3,h4⟩ | ⟨_,h4⟩
   ·cases h4
    exact ⟨i,m,e,h1,h2,hf,hu,by simpa using h3⟩
   ·cases h4
  ·cases h
 ·cases h
theorem DJ {t:TypeId} {name:String} {f:FuncId} (h:methodOf P t name=some f) (n:Nat) (v:Value) (w:World):(method (n+1) t v name).run P w = .ok (f,v) w:=by
 obtain ⟨i,m,e,h1,h2,h3,h4,h5⟩:=GN h
 simp only [method,Sem.run_bind,run_typeInfo h1,Result.andThen_ok,h2,h5,follow,Sem.run_pure,h3,receiverAt,run_underlying h4,Place.get]
theorem Ui {co:Cod} {call:Zu} (hcall:ZZ P call) {o:Oper} {c:Call} (ho:o.op = .call c) {l:List Zc} {e:Env} {s s':St} {v:Zc} (h:EY co P call c l e s = .ok v s') :
  Rr P o co l e s v s' (LF c):=by
 obtain ⟨dst,op,ty,pos,af,gd⟩:=o
 cases ho
 obtain ⟨callee,args,types⟩:=c
 cases callee with
 | builtin b =>
  obtain ⟨args⟩:=args
  obtain ⟨types⟩:=types
  have h:Zfc co P b types args l e s = .ok v s':=h
  unfold Zfc at h
  split at h
  ·exact Zfo dst ty pos af gd h
  ·exact Zfp dst ty pos af gd h
  ·cases h
 | value f =>
  intro r w a hr hc
  have hargs:∀ x∈args.toList,∀ v,Zn l e (co x) = .ok v→VR r v (a.eval x):=fun x hx=>hc x (by simp [Op.operands,Call.operands]; exact .inr (by simpa using hx))
  have gen:EX call (co f) (Kv co args.toList) l e s = .ok v s'→LJ P ⟨dst,.call ⟨.value f,args,types⟩,ty,pos,af,gd⟩ a r s w v s':=fun h=>by
   obtain ⟨vs,h1,h2⟩:=Pk h
   obtain ⟨u,h3,h4⟩:=then_ok h2
   unfold Zel at h4
   split at h4
   ·rename_i g fi ca
    have h5:=hc f (by simp [Op.operands,Call.operands]) _ h3
    have h6:=XC args.toList hargs h1
    generalize hg:a.eval f=gv at h5
    cases h5 with
    | func _ ha hb =>
     rename_i fi' ca'
     refine (hcall _ _ _ _ _ h4 r w _ hr (ha.append (h6.append hb))).op ?_
     have:(⟨fi'⟩++args.map a.eval++⟨ca'⟩:Array Value)=⟨fi'++(args.toList.map a.eval++ca')⟩:=by
      apply Array.ext'
      simp
     rw [← this]
     simp only [execOp,resolve,hg,Deferred.ofValue,Sem.run_bind,Sem.run_pure,Result.andThen_ok,invoke]
   ·cases h4
  cases f with
  | func g =>
   obtain ⟨vs,h1,h2⟩:=Pk (h:CH call g (Kv co args.toList) l e s = .ok v s')
   have h6:=XC args.toList hargs h1
   refine (hcall _ _ _ _ _ h2 r w _ hr h6).op ?_
   have:(#[]++args.map a.eval ++ #[]:Array Value)=⟨args.toList.map a.eval⟩:=by
    apply Array.ext'
    simp
   rw [← this]
   simp only [execOp,resolve,Act.eval,Deferred.ofValue,Sem.run_bind,Sem.run_pure,Result.andThen_ok,invoke]
  | _=>exact gen h
 | invoke rc name =>
  intro r w a hr hc
  have hargs:∀ x∈args.toList,∀ v,Zn l e (co x) = .ok v→VR r v (a.eval x):=fun x hx=>hc x (by simp [Op.operands,Call.operands]; exact .inr (by simpa using hx))
  obtain ⟨vs,h1,h2⟩:=Pk (h:Gg P call (co rc) name (Kv co args.toList) l e s = .ok v s')
  obtain ⟨u,h3,h4⟩:=then_ok h2
  have h6:=XC args.toList hargs h1
  unfold CJ at h4
  split at h4
  ·rename_i t u
   obtain ⟨_,h4⟩:=Zr h4
   unfold CI at h4
   split at h4
   ·rename_i g hg
    have h5:=hc rc (by simp [Op.operands,Call.operands]) _ h3
    generalize hrv:a.eval rc=rv at h5
    cases h5 with
    | iface _ hv =>
     rename_i u'
     refine (hcall _ _ _ _ _ h4 r w _ hr (.cons hv h6)).op ?_
     have hx:((#[Value.iface t u']++args.map a.eval:Array Value))[0]? = some (.iface t u'):=by
      rw [Array.getElem?_append_left (by simp)]
      rfl
     have hy:(#[Value.iface t u']++args.map a.eval:Array Value).extract 1 (#[Value.iface t u']++args.map a.eval:Array Value).size=args.map a.eval:=by
      apply Array.ext'
      simp
      rw [List.take_of_length_le (by simp)]
     have hz:(#[u']++args.map a.eval:Array Value)=⟨u'::args.toList.map a.eval⟩:=by
      apply Array.ext'
      simp
     have hmt:=fun w=>DJ (P:=P) hg (P.types.size+(Made.depth-1)) u' w
     have hd:P.types.size+(Made.depth-1)+1=P.types.size+Made.depth:=rfl
     rw [hd] at hmt
     simp only [execOp,resolve,hrv,Sem.run_bind,Sem.run_pure,Result.andThen_ok,invoke,hx,hy,callMethod,run_program,hmt,hz]
   ·cases h4
  ·cases h4
theorem Rt {co:Cod} {call:Zu} (hcall:ZZ P call) {o:Oper} {l:List Zc} {e:Env} {s s':St} {v:Zc} (h:(comp co P call o.op).run l e s = .ok v s') :
  Rr P o co l e s v s' (KG P o.op):=by
 cases ho:o.op with
 | call c =>
  rw [ho] at h
  exact Ui hcall ho h
 | _=>rw [← ho]; exact Zc3 (fun c hc=>by rw [ho] at hc; cases hc) h
end Go.Proofs.YtheflbaejhlboaaGreatDoor.Ev
namespace Go.Proofs.YtheflbaejhlboaaGreatDoor.Ev
open Go
variable [Sig] {P:Program}
structure Qk (K:ZF) (r:Rho) (e:Env) (a:Act):Prop where
 env:∀ t v,e.get t=some v→K.Zi t=true∧VR r v (a.tmps.getD t undef)
 size:K.n≤a.tmps.size
 defers:a.defers=[]
def Ww (n:Nat):Al→Prop
 | .nil=>True
 | .loc _ i l=>i<n∧Ww n l
 | .same _ _ l=>Ww n l
 | .const _ _ l=>Ww n l
theorem Ww.mono {n m:Nat} (h:n≤m):∀ {al:Al},Ww n al→Ww m al
 | .nil,_=>trivial
 | .loc _ _ al,h1=>⟨Nat.lt_of_lt_of_le h1.1 h,Ww.mono (al:=al) h h1.2⟩
 | .same _ _ al,h1=>Ww.mono (al:=al) h (show Ww n al from h1)
 | .const _ _ al,h1=>Ww.mono (al:=al) h (show Ww n al from h1)
structure Inv (K:ZF) (r:Rho) (s:St) (w:World) (l:List Zc) (e0 e:Env) (n:Nat) (al:Al) (a:Act):Prop where
 rel:Rel r s w
 env:Qk K r e a
 ali:∀ t v,Zn l e0 (ZT n al t) = .ok v→VR r v (a.tmps.getD t undef)
 lts:Ww n al
theorem Inv.start {K:ZF} {r:Rho} {s:St} {w:World} {e:Env} {a:Act} (h:Rel r s w) (he:Qk K r e a):Inv K r s w [] e e 0 .nil a :=
 ⟨h,he,fun t v hv=>(he.env t v (Ls hv)).2,trivial⟩
theorem Inv.cx {K:ZF} {r:Rho} {s:St} {w:World} {l:List Zc} {e0 e:Env} {n:Nat} {al:Al} {a:Act} (h:Inv K r s w l e0 e n al a) (o:Op):Cx r l e0 (Q7 n al) a o:=by
 intro x _ v hv
 cases x with
 | tmp t=>exact h.ali t v hv
 | const u =>
  have hv:Zn l e0 (RT u) = .ok v:=hv
  unfold RT at hv
  split at hv
  ·rename_i b hb
   cases hv
   exact TC r u _ hb
  ·cases hv
 | func f =>
  cases hv
  exact .func f .nil .nil
 | _=>cases hv
theorem Zay {l:List Zc} {v:Zc} {n i:Nat} (h:i<n):Yy (n+1-1-i) (v::l)=Yy (n-1-i) l:=by
 have:n+1-1-i=(n-1-i)+1:=by omega
 rw [this]
 rfl
theorem XM {l:List Zc} {e0:Env} {v:Zc} {n:Nat} (t:Tmp):∀ {al:Al},Ww n al→Zn (v::l) e0 (ZT (n+1) al t)=Zn l e0 (ZT n al t)
 | .nil,_=>rfl
 | .loc u i al,h=>by
  simp only [ZT]
  cases Nat.beq t u
  ·exact XM t h.2
  ·exact Zay h.1
 | .same u x al,h=>by
  simp only [ZT]
  cases Nat.beq t u
  ·exact XM t (al:=al) h
  ·rfl
 | .const u x al,h=>by
  simp only [ZT]
  cases Nat.beq t u
  ·exact XM t (al:=al) h
  ·show Zn (v::l) e0 (RT x)=Zn l e0 (RT x)
   unfold RT
   split <;> rfl
theorem Ji {a:Act} {d:Tmp} {u:Value} (h:d<a.tmps.size):(a.put (some d) u).tmps.getD d undef=u:=by
 simp [Act.put,h]
theorem QV {a:Act} {d t:Tmp} {u:Value} (h:d≠t):(a.put (some d) u).tmps.getD t undef=a.tmps.getD t undef:=by
 simp [Act.put,Array.getElem?_setIfInBounds_ne h]
theorem Y1 (a:Act) (d:Option Tmp) (u:Value):(a.put d u).tmps.size=a.tmps.size:=by
 cases d <;> simp [Act.put]
theorem Y2 (a:Act) (d:Option Tmp) (u:Value):(a.put d u).defers=a.defers:=by
 cases d <;> rfl
theorem Qk.put {K:ZF} {r q:Rho} {e:Env} {a:Act} (h:Qk K r e a) (hle:r.le q) {o:Oper} (hd:Qr K o=true) {v:Zc} {u:Value} (hv:VR q v u) :
  Qk K q (Kl e v (JT K o)) (a.put o.dst u):=by
 refine ⟨fun t x hx => ?_,by rw [Y1]; exact h.size,by rw [Y2]; exact h.defers⟩
 unfold Qr at hd
 unfold JT at hx
 cases ho:o.dst with
 | none =>
  rw [ho] at hx
  have hx:e.get t=some x:=hx
  obtain ⟨h1,h2⟩:=h.env t x hx
  exact ⟨h1,h2.mono hle⟩
 | some d =>
  rw [ho] at hx hd
  have hdn:d<a.tmps.size:=Nat.lt_of_lt_of_le (Qy hd) h.size
  simp only at hx
  cases hk:K.Zi d
  ·rw [hk] at hx
   have hx:e.get t=some x:=hx
   obtain ⟨h1,h2⟩:=h.env t x hx
   have hne:d≠t:=fun e=>by subst e; rw [hk] at h1; cases h1
   exact ⟨h1,by rw [QV hne]; exact h2.mono hle⟩
  ·rw [hk] at hx
   have hx:(e.set d (some v)).get t=some x:=hx
   rw [Jo] at hx
   by_cases hdt:d=t
   ·subst hdt
    rw [if_pos rfl] at hx
    cases hx
    exact ⟨hk,by rw [Ji hdn]; exact hv⟩
   ·rw [if_neg hdt] at hx
    obtain ⟨h1,h2⟩:=h.env t x hx
    exact ⟨h1,by rw [QV hdt]; exact h2.mono hle⟩
theorem Inv.step {K:ZF} {r q:Rho} {s s1:St} {w w1:World} {l:List Zc} {e0 e:Env} {n:Nat} {al:Al} {a:Act} (h:Inv K r s w l e0 e n al a) {o:Oper} (hd:Qr K o=true)
  {v:Zc} {u:Value} (hv:VR q v u) (hx:Ext r s w q s1 w1):Inv K q s1 w1 (v::l) e0 (Kl e v (JT K o)) (n+1) (Qa n al o) (a.put o.dst u):=by
 refine ⟨hx.rel,h.env.put hx.le hd hv,fun t x ht => ?_,?_⟩
 ·unfold Qa at ht
  unfold Qr at hd
  cases ho:o.dst with
  | none =>
   rw [ho] at ht
   have ht:Zn (v::l) e0 (ZT (n+1) al t) = .ok x:=ht
   rw [XM t h.lts] at ht
   exact (h.ali t x ht).mono hx.le
  | some d =>
   rw [ho] at ht hd
   have hdn:d<a.tmps.size:=Nat.lt_of_lt_of_le (Qy hd) h.env.size
   simp only [ZT] at ht
   cases hb:Nat.beq t d
   ·rw [hb] at ht
    have ht:Zn (v::l) e0 (ZT (n+1) al t) = .ok x:=ht
    rw [XM t h.lts] at ht
    rw [QV (Ne.symm (Je hb))]
    exact (h.ali t x ht).mono hx.le
   ·rw [hb] at ht
    have:=ZD hb
    subst this
    have ht:Yy (n+1-1-n) (v::l) = .ok x:=ht
    rw [show n+1-1-n=0 by omega] at ht
    cases ht
    rw [Ji hdn]
    exact hv
 ·unfold Qa
  cases o.dst with
  | none=>exact h.lts.mono (Nat.le_succ n)
  | some d=>exact ⟨Nat.lt_succ_self n,h.lts.mono (Nat.le_succ n)⟩
theorem KH (n:Nat) (d t:Tmp):∀ (al:Al),(∃ u,WT al d t = .same d u∧ZT n al t = .tmp (bits u))∨(∃ i,WT al d t = .loc d i∧ZT n al t = .loc (n-1-i)∧(Ww n al→i<n)) ∨
   (∃ v,WT al d t = .const d v∧ZT n al t=RT v)
 | .nil => .inl ⟨t,rfl,rfl⟩
 | .loc u i al=>by
  simp only [WT,ZT]
  cases Nat.beq t u
  ·rcases KH n d t al with h | ⟨j,h1,h2,h3⟩ | h
   ·exact .inl h
   ·exact .inr (.inl ⟨j,h1,h2,fun h=>h3 h.2⟩)
   ·exact .inr (.inr h)
  ·exact .inr (.inl ⟨i,rfl,rfl,fun h=>h.1⟩)
 | .same u x al=>by
  simp only [WT,ZT]
  cases Nat.beq t u
  ·exact KH n d t al
  ·exact .inl ⟨x,rfl,rfl⟩
 | .const u x al=>by
  simp only [WT,ZT]
  cases Nat.beq t u
  ·exact KH n d t al
  ·exact .inr (.inr ⟨x,rfl,rfl⟩)
theorem LK {K:ZF} {al:Al} {o:Oper} (h:DD K al o ≠ .no):∃ d,o.guard=none∧o.dst=some d∧K.Zi d=false∧DD K al o=Ue al d o.op:=by
 unfold DD at h ⊢
 split at h
 ·rename_i d hg hd
  cases hk:K.Zi d
  ·exact ⟨d,hg,hd,hk,rfl⟩
  ·rw [hk] at h; exact absurd rfl h
 ·exact absurd rfl h
theorem LL {al:Al} {d:Tmp} {op:Op} (h:Ue al d op ≠ .no):(∃ v,op = .move (.const v)∧Ue al d op = .const d v)∨(∃ t,op = .move (.tmp t)∧Ue al d op=WT al d t):=by
 unfold Ue at h ⊢
 split at h
 ·exact .inl ⟨_,rfl,rfl⟩
 ·exact .inr ⟨_,rfl,rfl⟩
 ·exact absurd rfl h
theorem Inv.move {K:ZF} {r:Rho} {s:St} {w:World} {l:List Zc} {e0 e:Env} {n:Nat} {al al':Al} {a:Act} (h:Inv K r s w l e0 e n al a) {d:Tmp} (hk:K.Zi d=false) (hd:Nat.blt d K.n=true)
  {u:Value} (h1:∀ t,t≠d→ZT n al' t=ZT n al t) (h2:∀ v,Zn l e0 (ZT n al' d) = .ok v→VR r v u) (h3:Ww n al') :
  Inv K r s w l e0 e n al' (a.put (some d) u):=by
 have hdn:d<a.tmps.size:=Nat.lt_of_lt_of_le (Qy hd) h.env.size
 refine ⟨h.rel,⟨fun t v ht => ?_,by rw [Y1]; exact h.env.size,by rw [Y2]; exact h.env.defers⟩,fun t v ht => ?_,h3⟩
 ·obtain ⟨h4,h5⟩:=h.env.env t v ht
  have hne:d≠t:=fun e=>by subst e; rw [hk] at h4; cases h4
  exact ⟨h4,by rw [QV hne]; exact h5⟩
 ·by_cases hdt:t=d
  ·subst hdt
   rw [Ji hdn]
   exact h2 v ht
  ·rw [h1 t hdt] at ht
   rw [QV (Ne.symm hdt)]
   exact h.ali t v ht
end Go.Proofs.YtheflbaejhlboaaGreatDoor.Ev
