/- Lemmas for a law of confluencetop. -/
import Derived.Test.YtheflbaejhlboaaGreatDoorTopNe8
import Derived.Laws.Externs
import Derived.MapKept
import Derived.Below
import Derived.Shelf.Bits.Mul64
import Derived.KernelRfl
set_option linter.all false
set_option maxRecDepth 1000000
namespace Go.Proofs.YtheflbaejhlboaaGreatDoor
open Tryz
namespace Ev
open Go
noncomputable section
mutual
def Zfp:Zb->List Nat
 | .ptr i _=>[i]
 | .slice i _ _ _=>[i]
 | .map i=>[i]
 | .gho i _=>[i]
 | .func _ a b=>LK a++LK b
 | .iface _ v=>Zfp v
 | .agg l=>LK l
 | .tuple l=>LK l
 | _=>[]
def LK:List Zb->List Nat
 | []=>[]
 | v::l=>Zfp v++LK l
end
def Zh7:List Entry->List Nat
 | []=>[]
 | (k,v,_)::l=>Zfp k++(Zfp v++Zh7 l)
def ZlS:Zd->List Nat
 | .cells cs _ _=>LK cs
 | .map es _=>Zh7 es
 | .mapIter (some m) _ _ _=>[m]
 | .mapIter none _ _ _=>[]
 | .opq i _=>[i]
def ZlT (o:Option Zd):List Nat:=match o with
 | some b=>ZlS b
 | none=>[]
def Zha (go:List Nat->Tr Unit->List Nat->List Nat) (s:St) (t:Tr Unit) (acc:List Nat) (i:Nat) (l:List Nat) (seen:Option Unit):List Nat:=match seen with
 | some _=>go l t acc
 | none=>match s.get i with
  | some b=>go (ZlS b++l) (t.set i (some ())) (i::acc)
  | none=>go l (t.set i (some ())) (i::acc)
def Zfq (s:St) (n:Nat):List Nat->Tr Unit->List Nat->List Nat :=
 @Nat.rec (fun _=>List Nat->Tr Unit->List Nat->List Nat) (fun _ _ acc=>acc)
  (fun _ ih l t acc=>@List.rec Nat (fun _=>List Nat) acc (fun i l _=>Zha ih s t acc i l (t.get i)) l) n
def ZlU (l:List Nat):Tr Unit:=@List.rec Nat (fun _=>Tr Unit) .lf (fun i _ ih=>ih.set i (some ())) l
def Zkh (s:St) (l:List Nat):List Nat:=@List.rec Nat (fun _=>List Nat) [] (fun i _ ih=>ZlT (s.get i)++ih) l
def G0:Nat:=100000
def Ur (args:List Zb) (s:St):List Nat:=(Zfq s G0 (LK args) .lf []).reverse
def Uq (ids:List Nat) (v:Zb) (s:St):List Nat:=(Zfq s G0 (Zfp v++Zkh s ids) (ZlU ids) []).reverse
abbrev Vn:=Nat->Option Nat
def ZcW (v:Option Zb) (l:Option (List Zb)):Option (List Zb):=match v,l with
 | some v,some l=>some (v::l)
 | _,_=>none
mutual
def TZ (g:Vn):Zb->Option Zb
 | .ptr i o=>(g i).map fun j => .ptr j o
 | .slice i o n c=>(g i).map fun j => .slice j o n c
 | .map i=>(g i).map .map
 | .gho i t=>(g i).map fun j => .gho j t
 | .func f a b=>match YZ g a,YZ g b with
  | some a,some b=>some (.func f a b)
  | _,_=>none
 | .iface t v=>(TZ g v).map (.iface t)
 | .agg l=>(YZ g l).map .agg
 | .tuple l=>(YZ g l).map .tuple
 | v=>some v
def YZ (g:Vn):List Zb->Option (List Zb)
 | []=>some []
 | v::l=>ZcW (TZ g v) (YZ g l)
end
def EO (g:Vn):List Entry->Option (List Entry)
 | []=>some []
 | (k,v,n)::l=>match TZ g k,TZ g v,EO g l with
  | some k,some v,some l=>some ((k,v,n)::l)
  | _,_,_=>none
def Sf (g:Vn):Zd->Option Zd
 | .cells cs e o=>(YZ g cs).map fun cs => .cells cs e o
 | .map es c=>(EO g es).map fun es => .map es c
 | .mapIter (some m) a l b=>(g m).map fun m => .mapIter (some m) a l b
 | .mapIter none a l b=>some (.mapIter none a l b)
 | .opq i t=>(g i).map fun j => .opq j t
def ZcX (g:Vn) (o:Option Zd):Option Zd:=match o with
 | some b=>Sf g b
 | none=>none
def Xd (n:Nat):List Nat->List (Nat×Nat)
 | []=>[]
 | i::l=>(i,n)::Xd (n+1) l
def Vi (n:Nat) (T:Tr Nat):Vn:=fun i=>sel (Nat.blt i n) (some i) (T.get i)
def Um (i:Nat) (was now new:Option Zd) (l:List (Nat×Zd)):List (Nat×Zd):=match now,new with
 | some b,some b'=>sel (sel (Kv b was) (D7 b' b) true) ((i,b')::l) l
 | _,_=>l
def Ca (g:Vn) (S s:St):List Nat->List (Nat×Zd)
 | []=>[]
 | i::l=>Um i (S.get i) (s.get i) (ZcX g (s.get i)) (Ca g S s l)
def Uo (i:Nat) (b:Option Zd) (l:List (Nat×Zd)):List (Nat×Zd):=match b with
 | some b=>(i,b)::l
 | none=>l
def M5 (g:Vn) (s:St):List (Nat×Nat)->List (Nat×Zd)
 | []=>[]
 | (i,j)::l=>Uo j (ZcX g (s.get i)) (M5 g s l)
def Hr (n:Nat):List Nat->Bool
 | []=>true
 | i::l=>sel (Nat.ble n i) (Hr n l) false
def distinct:List Nat->Bool
 | []=>true
 | i::l=>sel (WT i l) false (distinct l)
inductive Can where
 | mk (v:Zb) (post:List (Nat×Zd)) (m:Nat)
 | bad
def yY (v:Option Zb) (post:List (Nat×Zd)) (m:Nat):Can:=match v with
 | some v => .mk v post m
 | none => .bad
def yX (S s:St) (ids:List Nat) (L:List Nat) (v:Zb) (N:List (Nat×Nat)) (g:Vn):Can :=
 yY (TZ g v) (Ca g S s ids++M5 g s N) (S.next+L.length)
def Hs (n:Nat):List Nat->Bool
 | []=>true
 | i::l=>sel (Nat.blt i n) (Hs n l) false
def Zkt (S s:St) (ids:List Nat) (v:Zb) (L:List Nat):Can:=sel (Hs S.next ids) (sel (Hr S.next L) (sel (distinct L)
 (yX S s ids L v (Xd S.next L) (Vi S.next (Qc (Xd S.next L) .lf))) .bad) .bad) .bad
def ZcZ (S:St) (ids:List Nat) (r:R):Can:=match r with
 | .ok v s=>Zkt S s ids v (Uq ids v s)
 | .bad => .bad
def Zhb (v:Zb) (m:Nat) (c:Can):Bool:=match c with
 | .mk u _ n=>sel (XO u v) (Nat.beq n m) false
 | .bad=>false
def Zki (i:Nat) (b:Zd) (c:Can):Bool:=match c with
 | .mk _ post _=>Kv b ((Qc post .lf).get i)
 | .bad=>false
def Up (v:Zb) (m:Nat):List Can->Bool
 | []=>true
 | c::l=>sel (Zhb v m c) (Up v m l) false
def Kl (i:Nat) (b:Zd):List Can->Bool
 | []=>true
 | c::l=>sel (Zki i b c) (Kl i b l) false
def WW (cs:List Can):List (Nat×Zd)->List (Nat×Zd)
 | []=>[]
 | (i,b)::l=>sel (Kl i b cs) ((i,b)::WW cs l) (WW cs l)
def Zc0 (S:St) (ids:List Nat):List R->List Can
 | []=>[]
 | r::l=>ZcZ S ids r::Zc0 S ids l
def ES (f:FuncId) (args:List Zb) (S s:St) (pre:List (Nat×Zd)) (cs:List Can):R:=match cs with
 | .mk v post m::l=>sel (Up v m l) (.ok v ((⟨f,args,pre,S.next,v,WW (.mk v post m::l) post,m⟩:Ent).Ft s)) .bad
 | _ => .bad
def VC (s:St) (r m since c:Nat) (seen:List Nat):List Entry->List R
 | []=>[]
 | (k,v,b)::l=>sel (Nat.blt b since) (.ok (.tuple [.bool true,k,v]) (s.put r (.mapIter (some m) since (seen++[b]) c))) .bad::VC s r m since c seen l
def Fh (s:St) (r m since c:Nat) (seen:List Nat) (es:List Entry):List R:=match es with
 | []=>[.ok (.tuple [.bool false]) s]
 | es=>VC s r m since c seen es
def Uh (s:St) (r m since last:Nat) (seen:List Nat) (x:Mp):List R:=match x with
 | .mk es c=>sel (TX last seen es) [.bad] (Fh s r m since c seen (leftOf seen es))
 | .bad=>[.bad]
def Fg (s:St) (r:Nat) (b:Option Zd):List R:=match b with
 | some (.mapIter none _ _ _)=>[.ok (.tuple [.bool false]) s]
 | some (.mapIter (some m) since seen last)=>Uh s r m since last seen (s.Xa m)
 | _=>[.bad]
def Tl (s:St) (v:V):List R:=match v with
 | .ok (.ptr r 0)=>Fg s r (s.get r)
 | _=>[.bad]
def Fm (o:Oper):Option Operand:=match o.op,o.guard with
 | .next it false,none=>some it
 | _,_=>none
def VD (ops:List Oper):Option Operand:=match ops with
 | o::_=>Fm o
 | []=>none
def hasNext:Code->Bool
 | .seq a b=>sel (hasNext a) true (hasNext b)
 | .cond _ a b=>sel (hasNext a) true (hasNext b)
 | .block _ b=>hasNext b
 | .loop b=>hasNext b
 | .region _ ops false=>isSome (VD ops.toList)
 | _=>false
def Hn (is:Fl) (e:Env) (d:Option (List Bool)):List R->List Res
 | []=>[]
 | r::l=>(match r with | .ok v s=>Ys e is [v] (Wk e v d) s | .bad => .bad)::Hn is e d l
def nG (P:Program) (call:Zz) (K:ZK) (ops:Array Oper) (e:Env) (s:St) (ex:Res) (l:List Oper) (it:Option Operand):List Res:=match l,it with
 | o::rest,some it=>sel (QB K o) (Hn (JO P call K ops rest 1 (Qk 0 .nil o)) e (Xb K o) (Tl s (Zl [] e (Jz 0 .nil it)))) [.bad]
 | _,_=>[ex]
def EN (f:Env->St->List Res) (n:Nat):Env->St->List Res :=
 @Nat.rec (fun _=>Env->St->List Res) (fun _ _=>[.bad]) (fun _ ih e s=>bindM ih (f e s)) n
def M3 (i:Nat):List Res->List Res
 | []=>[]
 | r::l=>Se i r::M3 i l
def YY (P:Program) (call:Zz) (K:ZK) (fuel:Nat) (ex:Code->Env->St->Res):Code->Env->St->List Res
 | .seq a b=>fun e s=>sel (sel (hasNext a) true (hasNext b)) (bindM (YY P call K fuel ex b) (YY P call K fuel ex a e s)) [ex (.seq a b) e s]
 | .cond x a b=>fun e s=>sel (sel (hasNext a) true (hasNext b)) (R4 (YY P call K fuel ex a) (YY P call K fuel ex b) e s (Zl [] e (Jz 0 .nil x))) [ex (.cond x a b) e s]
 | .block i b=>fun e s=>sel (hasNext b) (M3 i (YY P call K fuel ex b e s)) [ex (.block i b) e s]
 | .loop b=>fun e s=>sel (hasNext b) (EN (YY P call K fuel ex b) fuel e s) [ex (.loop b) e s]
 | .region id ops false=>fun e s=>nG P call K ops e s (ex (.region id ops false) e s) ops.toList (VD ops.toList)
 | c=>fun e s=>[ex c e s]
def exL (P:Program) (call:Zz) (K:ZK) (kn:Kw) (fuel:Nat) (c:Code):Env->St->Res:=GK P call K kn fuel fuel (cc P call K kn c)
def EP (P:Program) (call:Zz) (K:ZK) (kn:Kw) (fuel:Nat) (f:FuncId) (rv:List RV) (b:Code) (args:List Zb) (s:St) (ids:List Nat) (pre:List (Nat×Zd)) (S:St):R :=
 ES f args S s pre (Zc0 S ids (LI rv (YY P call K fuel (exL P call K kn fuel) b (Wm K 0 .lf args) S)))
def Zc2 (P:Program) (call:Zz) (K:ZK) (kn:Kw) (fuel:Nat) (f:FuncId) (rv:List RV) (b:Code) (args:List Zb) (s:St) (ids:List Nat):R :=
 EP P call K kn fuel f rv b args s ids (Jo s ids) ⟨Qc (Jo s ids) .lf,s.next⟩
def Zc1 (P:Program) (call:Zz) (kn:Kw) (Zf:T3) (fuel:Nat) (f:FuncId) (fn:Func) (args:List Zb) (s:St) (b:Option Code):R:=match b with
 | some b=>Zc2 P call ⟨fn.ntmps,Zf⟩ kn fuel f (XQ P fn.results.toList) b args s (Ur args s)
 | none => .bad
def Zhq (P:Program) (call:Zz) (kn:Kw) (Zf:T3) (fuel:Nat) (f:FuncId) (args:List Zb) (s:St) (fn:Option Func):R:=match fn with
 | some fn=>Zc1 P call kn Zf fuel f fn args s fn.body
 | none => .bad
def ET (P:Program) (B:YT) (M:FuncId->Bool) (call:Zz) (fuel:Nat) (f:FuncId) (args:List Zb) (s:St) (o:Option Orc):R :=
 @Option.rec Orc (fun _=>R) (sel (M f) (Zhq P call (B.reg f) (B.Zf f) fuel f args s (B.fn f)) (Sh P call (B.reg f) fuel args s (ZfL P call (B.Zf f) (B.reg f) (B.fn f)))) (fun g=>g.run args s) o
def Hv (P:Program) (B:YT) (M:FuncId->Bool) (fuel:Nat) (d:Nat):Zz :=
 @Nat.rec (fun _=>Zz) (fun _ _ _ => .bad) (fun _ ih f args s=>ET P B M ih fuel f args s (B.orc f)) d
def Qh (P:Program) (B:YT) (M:FuncId->Bool) (fuel d:Nat) (e:Ent):Bool :=
 y5 e (ET P B M (Hv P B M fuel d) fuel e.f e.args e.S none)
end
end Ev
namespace Ev
open Go Go.Proofs
noncomputable def fnD (o:Option Func):Func:=match o with
 | some f=>f
 | none=>Tryz.f0
noncomputable def OL:List (Nat×Orc):=Zmm prog NN VF fun f=>fnD (fnT.get f)
noncomputable def OT:Tr Orc:=Qc OL .lf
noncomputable def B0:YT:={ fn:=fun f=>fnT.get f,Zf:=VF,reg:=fun _ _=>none,orc:=fun f=>OT.get f }
noncomputable def M0:FuncId->Bool:=fun _=>false
end Ev
namespace Ev
open Go Go.Proofs
def EE:List Bool->Nat
 | []=>0
 | true::p=>2*EE p+1
 | false::p=>2*EE p+2
theorem G1:∀ (f n:Nat),n<=f->EE (NT f n)=n
 | 0,n,h=>by
  have:n=0:=by omega
  subst this;rfl
 | f+1,n,h=>by
  rw [KI];by_cases hn:n=0
  ·rw [if_pos hn,hn]; rfl
  ·rw [if_neg hn];have ih:=G1 f ((n-1) / 2) (by omega);cases hb:Nat.beq (n%2) 1
   ·have h2:n%2≠1:=fun e=>by rw [e] at hb; cases hb
    show 2*EE _+2=n;rw [ih];omega
   ·have h2:n%2=1:=Nat.eq_of_beq_eq_true hb;show 2*EE _+1=n;rw [ih];omega
def JK (Q:Nat->Func->Prop) (i:Nat->Nat):Tr Func->Prop
 | .lf=>True
 | .nd v l r=>(match v with | some a=>Q (i 0) a | none=>True)/\JK Q (fun k=>i (2*k+1)) l/\JK Q (fun k=>i (2*k+2)) r
theorem TM {Q:Nat->Func->Prop}:∀ (p:List Bool) (i:Nat->Nat) (t:Tr Func) (a:Func),JK Q i t->Tr.P6 p t=some a->Q (i (EE p)) a
 | [],i,.lf,a,_,h=>by cases h
 | [],i,.nd v l r,a,h,e=>by
  have e:v=some a:=e;subst e;exact h.1
 | true::p,i,.lf,a,_,h=>by cases h
 | false::p,i,.lf,a,_,h=>by cases h
 | true::p,i,.nd v l r,a,h,e=>TM p (fun k=>i (2*k+1)) l a h.2.1 e
 | false::p,i,.nd v l r,a,h,e=>TM p (fun k=>i (2*k+2)) r a h.2.2 e
theorem Zci {Q:Nat->Func->Prop} {t:Tr Func} (h:JK Q (fun k=>k) t) {n:Nat} {a:Func} (e:t.get n=some a):Q n a:=by
 have:=TM (bits n) (fun k=>k) t a h e;rw [show EE (bits n)=n from G1 n n (Nat.le_refl _)] at this;exact this
noncomputable def lt (t:Tr Func):Tr Func:=match t with
 | .nd _ l _=>l
 | .lf => .lf
noncomputable def rt (t:Tr Func):Tr Func:=match t with
 | .nd _ _ r=>r
 | .lf => .lf
theorem ZaY {a b:Bool} (h:sel a b false=true):a=true/\b=true:=by
 cases a
 ·cases h
 ·exact ⟨rfl,h⟩
noncomputable def XN (t:Tr Func):Bool:=@Tr.rec Func (fun _=>Bool) true (fun v _ _ a b=>@Option.rec Func (fun _=>Bool) (sel a b false) (fun f=>sel (f.name== "runtime.NumGoroutine") false (sel a b false)) v) t
theorem Vh:∀ (p:List Bool) (t:Tr Func) (a:Func),XN t=true->Tr.P6 p t=some a->(a.name== "runtime.NumGoroutine")=false
 | [],.lf,a,_,h=>by cases h
 | [],.nd v l r,a,h,e=>by
  have e:v=some a:=e;subst e
  have h:sel (a.name== "runtime.NumGoroutine") false (sel (XN l) (XN r) false)=true:=h
  cases hn:(a.name== "runtime.NumGoroutine")
  ·rfl
  ·rw [hn] at h; cases h
 | true::p,.lf,a,_,h=>by cases h
 | false::p,.lf,a,_,h=>by cases h
 | b::p,.nd v l r,a,h,e=>by
  have h2:XN l=true/\XN r=true:=by
   cases v with
   | none =>
    have h:sel (XN l) (XN r) false=true:=h;exact ZaY h
   | some f =>
    have h:sel (f.name== "runtime.NumGoroutine") false (sel (XN l) (XN r) false)=true:=h
    cases hn:(f.name== "runtime.NumGoroutine")
    ·rw [hn] at h; exact ZaY h
    ·rw [hn] at h; cases h
  cases b
  ·exact Vh p r a h2.2 e
  ·exact Vh p l a h2.1 e
theorem Zcj:XN fnT=true:=by decide +kernel
abbrev Ym (n:Nat) (f:Func):Prop:=prog.funcs[n]? = some f
theorem Zfr:JK Ym (fun k=>(2*(2*(2*(2*k+1)+1)+1)+1)) (lt (lt (lt (lt fnT)))):=⟨func15,⟨func31,⟨func63,⟨func127,⟨func255,⟨func511,trivial,trivial⟩,trivial⟩,⟨func383,⟨func639,trivial,trivial⟩,trivial⟩⟩,⟨func191,⟨func319,⟨func575,trivial,trivial⟩,trivial⟩,⟨func447,trivial,trivial⟩⟩⟩,⟨func95,⟨func159,⟨func287,⟨func543,trivial,trivial⟩,trivial⟩,⟨func415,⟨func671,trivial,trivial⟩,trivial⟩⟩,⟨func223,⟨func351,⟨func607,trivial,trivial⟩,trivial⟩,⟨func479,trivial,trivial⟩⟩⟩⟩,⟨func47,⟨func79,⟨func143,⟨func271,⟨func527,trivial,trivial⟩,trivial⟩,⟨func399,⟨func655,trivial,trivial⟩,trivial⟩⟩,⟨func207,⟨func335,⟨func591,trivial,trivial⟩,trivial⟩,⟨func463,trivial,trivial⟩⟩⟩,⟨func111,⟨func175,⟨func303,⟨func559,trivial,trivial⟩,trivial⟩,⟨func431,trivial,trivial⟩⟩,⟨func239,⟨func367,⟨func623,trivial,trivial⟩,trivial⟩,⟨func495,trivial,trivial⟩⟩⟩⟩⟩
theorem Zfs:JK Ym (fun k=>(2*(2*(2*(2*k+2)+1)+1)+1)) (rt (lt (lt (lt fnT)))):=⟨func23,⟨func39,⟨func71,⟨func135,⟨func263,⟨func519,trivial,trivial⟩,trivial⟩,⟨func391,⟨func647,trivial,trivial⟩,trivial⟩⟩,⟨func199,⟨func327,⟨func583,trivial,trivial⟩,trivial⟩,⟨func455,trivial,trivial⟩⟩⟩,⟨func103,⟨func167,⟨func295,⟨func551,trivial,trivial⟩,trivial⟩,⟨func423,trivial,trivial⟩⟩,⟨func231,⟨func359,⟨func615,trivial,trivial⟩,trivial⟩,⟨func487,trivial,trivial⟩⟩⟩⟩,⟨func55,⟨func87,⟨func151,⟨func279,⟨func535,trivial,trivial⟩,trivial⟩,⟨func407,⟨func663,trivial,trivial⟩,trivial⟩⟩,⟨func215,⟨func343,⟨func599,trivial,trivial⟩,trivial⟩,⟨func471,trivial,trivial⟩⟩⟩,⟨func119,⟨func183,⟨func311,⟨func567,trivial,trivial⟩,trivial⟩,⟨func439,trivial,trivial⟩⟩,⟨func247,⟨func375,⟨func631,trivial,trivial⟩,trivial⟩,⟨func503,trivial,trivial⟩⟩⟩⟩⟩
theorem Zft:JK Ym (fun k=>(2*(2*(2*(2*k+1)+2)+1)+1)) (lt (rt (lt (lt fnT)))):=⟨func19,⟨func35,⟨func67,⟨func131,⟨func259,⟨func515,trivial,trivial⟩,trivial⟩,⟨func387,⟨func643,trivial,trivial⟩,trivial⟩⟩,⟨func195,⟨func323,⟨func579,trivial,trivial⟩,trivial⟩,⟨func451,trivial,trivial⟩⟩⟩,⟨func99,⟨func163,⟨func291,⟨func547,trivial,trivial⟩,trivial⟩,⟨func419,⟨func675,trivial,trivial⟩,trivial⟩⟩,⟨func227,⟨func355,⟨func611,trivial,trivial⟩,trivial⟩,⟨func483,trivial,trivial⟩⟩⟩⟩,⟨func51,⟨func83,⟨func147,⟨func275,⟨func531,trivial,trivial⟩,trivial⟩,⟨func403,⟨func659,trivial,trivial⟩,trivial⟩⟩,⟨func211,⟨func339,⟨func595,trivial,trivial⟩,trivial⟩,⟨func467,trivial,trivial⟩⟩⟩,⟨func115,⟨func179,⟨func307,⟨func563,trivial,trivial⟩,trivial⟩,⟨func435,trivial,trivial⟩⟩,⟨func243,⟨func371,⟨func627,trivial,trivial⟩,trivial⟩,⟨func499,trivial,trivial⟩⟩⟩⟩⟩
theorem Zfu:JK Ym (fun k=>(2*(2*(2*(2*k+2)+2)+1)+1)) (rt (rt (lt (lt fnT)))):=⟨func27,⟨func43,⟨func75,⟨func139,⟨func267,⟨func523,trivial,trivial⟩,trivial⟩,⟨func395,⟨func651,trivial,trivial⟩,trivial⟩⟩,⟨func203,⟨func331,⟨func587,trivial,trivial⟩,trivial⟩,⟨func459,trivial,trivial⟩⟩⟩,⟨func107,⟨func171,⟨func299,⟨func555,trivial,trivial⟩,trivial⟩,⟨func427,trivial,trivial⟩⟩,⟨func235,⟨func363,⟨func619,trivial,trivial⟩,trivial⟩,⟨func491,trivial,trivial⟩⟩⟩⟩,⟨func59,⟨func91,⟨func155,⟨func283,⟨func539,trivial,trivial⟩,trivial⟩,⟨func411,⟨func667,trivial,trivial⟩,trivial⟩⟩,⟨func219,⟨func347,⟨func603,trivial,trivial⟩,trivial⟩,⟨func475,trivial,trivial⟩⟩⟩,⟨func123,⟨func187,⟨func315,⟨func571,trivial,trivial⟩,trivial⟩,⟨func443,trivial,trivial⟩⟩,⟨func251,⟨func379,⟨func635,trivial,trivial⟩,trivial⟩,⟨func507,trivial,trivial⟩⟩⟩⟩⟩
theorem Zfv:JK Ym (fun k=>(2*(2*(2*(2*k+1)+1)+2)+1)) (lt (lt (rt (lt fnT)))):=⟨func17,⟨func33,⟨func65,⟨func129,⟨func257,⟨func513,trivial,trivial⟩,trivial⟩,⟨func385,⟨func641,trivial,trivial⟩,trivial⟩⟩,⟨func193,⟨func321,⟨func577,trivial,trivial⟩,trivial⟩,⟨func449,trivial,trivial⟩⟩⟩,⟨func97,⟨func161,⟨func289,⟨func545,trivial,trivial⟩,trivial⟩,⟨func417,⟨func673,trivial,trivial⟩,trivial⟩⟩,⟨func225,⟨func353,⟨func609,trivial,trivial⟩,trivial⟩,⟨func481,trivial,trivial⟩⟩⟩⟩,⟨func49,⟨func81,⟨func145,⟨func273,⟨func529,trivial,trivial⟩,trivial⟩,⟨func401,⟨func657,trivial,trivial⟩,trivial⟩⟩,⟨func209,⟨func337,⟨func593,trivial,trivial⟩,trivial⟩,⟨func465,trivial,trivial⟩⟩⟩,⟨func113,⟨func177,⟨func305,⟨func561,trivial,trivial⟩,trivial⟩,⟨func433,trivial,trivial⟩⟩,⟨func241,⟨func369,⟨func625,trivial,trivial⟩,trivial⟩,⟨func497,trivial,trivial⟩⟩⟩⟩⟩
theorem Zfw:JK Ym (fun k=>(2*(2*(2*(2*k+2)+1)+2)+1)) (rt (lt (rt (lt fnT)))):=⟨func25,⟨func41,⟨func73,⟨func137,⟨func265,⟨func521,trivial,trivial⟩,trivial⟩,⟨func393,⟨func649,trivial,trivial⟩,trivial⟩⟩,⟨func201,⟨func329,⟨func585,trivial,trivial⟩,trivial⟩,⟨func457,trivial,trivial⟩⟩⟩,⟨func105,⟨func169,⟨func297,⟨func553,trivial,trivial⟩,trivial⟩,⟨func425,trivial,trivial⟩⟩,⟨func233,⟨func361,⟨func617,trivial,trivial⟩,trivial⟩,⟨func489,trivial,trivial⟩⟩⟩⟩,⟨func57,⟨func89,⟨func153,⟨func281,⟨func537,trivial,trivial⟩,trivial⟩,⟨func409,⟨func665,trivial,trivial⟩,trivial⟩⟩,⟨func217,⟨func345,⟨func601,trivial,trivial⟩,trivial⟩,⟨func473,trivial,trivial⟩⟩⟩,⟨func121,⟨func185,⟨func313,⟨func569,trivial,trivial⟩,trivial⟩,⟨func441,trivial,trivial⟩⟩,⟨func249,⟨func377,⟨func633,trivial,trivial⟩,trivial⟩,⟨func505,trivial,trivial⟩⟩⟩⟩⟩
theorem Zfx:JK Ym (fun k=>(2*(2*(2*(2*k+1)+2)+2)+1)) (lt (rt (rt (lt fnT)))):=⟨func21,⟨func37,⟨func69,⟨func133,⟨func261,⟨func517,trivial,trivial⟩,trivial⟩,⟨func389,⟨func645,trivial,trivial⟩,trivial⟩⟩,⟨func197,⟨func325,⟨func581,trivial,trivial⟩,trivial⟩,⟨func453,trivial,trivial⟩⟩⟩,⟨func101,⟨func165,⟨func293,⟨func549,trivial,trivial⟩,trivial⟩,⟨func421,trivial,trivial⟩⟩,⟨func229,⟨func357,⟨func613,trivial,trivial⟩,trivial⟩,⟨func485,trivial,trivial⟩⟩⟩⟩,⟨func53,⟨func85,⟨func149,⟨func277,⟨func533,trivial,trivial⟩,trivial⟩,⟨func405,⟨func661,trivial,trivial⟩,trivial⟩⟩,⟨func213,⟨func341,⟨func597,trivial,trivial⟩,trivial⟩,⟨func469,trivial,trivial⟩⟩⟩,⟨func117,⟨func181,⟨func309,⟨func565,trivial,trivial⟩,trivial⟩,⟨func437,trivial,trivial⟩⟩,⟨func245,⟨func373,⟨func629,trivial,trivial⟩,trivial⟩,⟨func501,trivial,trivial⟩⟩⟩⟩⟩
theorem Zfy:JK Ym (fun k=>(2*(2*(2*(2*k+2)+2)+2)+1)) (rt (rt (rt (lt fnT)))):=⟨func29,⟨func45,⟨func77,⟨func141,⟨func269,⟨func525,trivial,trivial⟩,trivial⟩,⟨func397,⟨func653,trivial,trivial⟩,trivial⟩⟩,⟨func205,⟨func333,⟨func589,trivial,trivial⟩,trivial⟩,⟨func461,trivial,trivial⟩⟩⟩,⟨func109,⟨func173,⟨func301,⟨func557,trivial,trivial⟩,trivial⟩,⟨func429,trivial,trivial⟩⟩,⟨func237,⟨func365,⟨func621,trivial,trivial⟩,trivial⟩,⟨func493,trivial,trivial⟩⟩⟩⟩,⟨func61,⟨func93,⟨func157,⟨func285,⟨func541,trivial,trivial⟩,trivial⟩,⟨func413,⟨func669,trivial,trivial⟩,trivial⟩⟩,⟨func221,⟨func349,⟨func605,trivial,trivial⟩,trivial⟩,⟨func477,trivial,trivial⟩⟩⟩,⟨func125,⟨func189,⟨func317,⟨func573,trivial,trivial⟩,trivial⟩,⟨func445,trivial,trivial⟩⟩,⟨func253,⟨func381,⟨func637,trivial,trivial⟩,trivial⟩,⟨func509,trivial,trivial⟩⟩⟩⟩⟩
theorem Zfz:JK Ym (fun k=>(2*(2*(2*(2*k+1)+1)+1)+2)) (lt (lt (lt (rt fnT)))):=⟨func16,⟨func32,⟨func64,⟨func128,⟨func256,⟨func512,trivial,trivial⟩,trivial⟩,⟨func384,⟨func640,trivial,trivial⟩,trivial⟩⟩,⟨func192,⟨func320,⟨func576,trivial,trivial⟩,trivial⟩,⟨func448,trivial,trivial⟩⟩⟩,⟨func96,⟨func160,⟨func288,⟨func544,trivial,trivial⟩,trivial⟩,⟨func416,⟨func672,trivial,trivial⟩,trivial⟩⟩,⟨func224,⟨func352,⟨func608,trivial,trivial⟩,trivial⟩,⟨func480,trivial,trivial⟩⟩⟩⟩,⟨func48,⟨func80,⟨func144,⟨func272,⟨func528,trivial,trivial⟩,trivial⟩,⟨func400,⟨func656,trivial,trivial⟩,trivial⟩⟩,⟨func208,⟨func336,⟨func592,trivial,trivial⟩,trivial⟩,⟨func464,trivial,trivial⟩⟩⟩,⟨func112,⟨func176,⟨func304,⟨func560,trivial,trivial⟩,trivial⟩,⟨func432,trivial,trivial⟩⟩,⟨func240,⟨func368,⟨func624,trivial,trivial⟩,trivial⟩,⟨func496,trivial,trivial⟩⟩⟩⟩⟩
theorem ZfA:JK Ym (fun k=>(2*(2*(2*(2*k+2)+1)+1)+2)) (rt (lt (lt (rt fnT)))):=⟨func24,⟨func40,⟨func72,⟨func136,⟨func264,⟨func520,trivial,trivial⟩,trivial⟩,⟨func392,⟨func648,trivial,trivial⟩,trivial⟩⟩,⟨func200,⟨func328,⟨func584,trivial,trivial⟩,trivial⟩,⟨func456,trivial,trivial⟩⟩⟩,⟨func104,⟨func168,⟨func296,⟨func552,trivial,trivial⟩,trivial⟩,⟨func424,trivial,trivial⟩⟩,⟨func232,⟨func360,⟨func616,trivial,trivial⟩,trivial⟩,⟨func488,trivial,trivial⟩⟩⟩⟩,⟨func56,⟨func88,⟨func152,⟨func280,⟨func536,trivial,trivial⟩,trivial⟩,⟨func408,⟨func664,trivial,trivial⟩,trivial⟩⟩,⟨func216,⟨func344,⟨func600,trivial,trivial⟩,trivial⟩,⟨func472,trivial,trivial⟩⟩⟩,⟨func120,⟨func184,⟨func312,⟨func568,trivial,trivial⟩,trivial⟩,⟨func440,trivial,trivial⟩⟩,⟨func248,⟨func376,⟨func632,trivial,trivial⟩,trivial⟩,⟨func504,trivial,trivial⟩⟩⟩⟩⟩
theorem Zck:JK Ym (fun k=>(2*(2*(2*(2*k+1)+2)+1)+2)) (lt (rt (lt (rt fnT)))):=⟨func20,⟨func36,⟨func68,⟨func132,⟨func260,⟨func516,trivial,trivial⟩,trivial⟩,⟨func388,⟨func644,trivial,trivial⟩,trivial⟩⟩,⟨func196,⟨func324,⟨func580,trivial,trivial⟩,trivial⟩,⟨func452,trivial,trivial⟩⟩⟩,⟨func100,⟨func164,⟨func292,⟨func548,trivial,trivial⟩,trivial⟩,⟨func420,⟨func676,trivial,trivial⟩,trivial⟩⟩,⟨func228,⟨func356,⟨func612,trivial,trivial⟩,trivial⟩,⟨func484,trivial,trivial⟩⟩⟩⟩,⟨func52,⟨func84,⟨func148,⟨func276,⟨func532,trivial,trivial⟩,trivial⟩,⟨func404,⟨func660,trivial,trivial⟩,trivial⟩⟩,⟨func212,⟨func340,⟨func596,trivial,trivial⟩,trivial⟩,⟨func468,trivial,trivial⟩⟩⟩,⟨func116,⟨func180,⟨func308,⟨func564,trivial,trivial⟩,trivial⟩,⟨func436,trivial,trivial⟩⟩,⟨func244,⟨func372,⟨func628,trivial,trivial⟩,trivial⟩,⟨func500,trivial,trivial⟩⟩⟩⟩⟩
theorem Zcl:JK Ym (fun k=>(2*(2*(2*(2*k+2)+2)+1)+2)) (rt (rt (lt (rt fnT)))):=⟨func28,⟨func44,⟨func76,⟨func140,⟨func268,⟨func524,trivial,trivial⟩,trivial⟩,⟨func396,⟨func652,trivial,trivial⟩,trivial⟩⟩,⟨func204,⟨func332,⟨func588,trivial,trivial⟩,trivial⟩,⟨func460,trivial,trivial⟩⟩⟩,⟨func108,⟨func172,⟨func300,⟨func556,trivial,trivial⟩,trivial⟩,⟨func428,trivial,trivial⟩⟩,⟨func236,⟨func364,⟨func620,trivial,trivial⟩,trivial⟩,⟨func492,trivial,trivial⟩⟩⟩⟩,⟨func60,⟨func92,⟨func156,⟨func284,⟨func540,trivial,trivial⟩,trivial⟩,⟨func412,⟨func668,trivial,trivial⟩,trivial⟩⟩,⟨func220,⟨func348,⟨func604,trivial,trivial⟩,trivial⟩,⟨func476,trivial,trivial⟩⟩⟩,⟨func124,⟨func188,⟨func316,⟨func572,trivial,trivial⟩,trivial⟩,⟨func444,trivial,trivial⟩⟩,⟨func252,⟨func380,⟨func636,trivial,trivial⟩,trivial⟩,⟨func508,trivial,trivial⟩⟩⟩⟩⟩
theorem Zcm:JK Ym (fun k=>(2*(2*(2*(2*k+1)+1)+2)+2)) (lt (lt (rt (rt fnT)))):=⟨func18,⟨func34,⟨func66,⟨func130,⟨func258,⟨func514,trivial,trivial⟩,trivial⟩,⟨func386,⟨func642,trivial,trivial⟩,trivial⟩⟩,⟨func194,⟨func322,⟨func578,trivial,trivial⟩,trivial⟩,⟨func450,trivial,trivial⟩⟩⟩,⟨func98,⟨func162,⟨func290,⟨func546,trivial,trivial⟩,trivial⟩,⟨func418,⟨func674,trivial,trivial⟩,trivial⟩⟩,⟨func226,⟨func354,⟨func610,trivial,trivial⟩,trivial⟩,⟨func482,trivial,trivial⟩⟩⟩⟩,⟨func50,⟨func82,⟨func146,⟨func274,⟨func530,trivial,trivial⟩,trivial⟩,⟨func402,⟨func658,trivial,trivial⟩,trivial⟩⟩,⟨func210,⟨func338,⟨func594,trivial,trivial⟩,trivial⟩,⟨func466,trivial,trivial⟩⟩⟩,⟨func114,⟨func178,⟨func306,⟨func562,trivial,trivial⟩,trivial⟩,⟨func434,trivial,trivial⟩⟩,⟨func242,⟨func370,⟨func626,trivial,trivial⟩,trivial⟩,⟨func498,trivial,trivial⟩⟩⟩⟩⟩
theorem Zcn:JK Ym (fun k=>(2*(2*(2*(2*k+2)+1)+2)+2)) (rt (lt (rt (rt fnT)))):=⟨func26,⟨func42,⟨func74,⟨func138,⟨func266,⟨func522,trivial,trivial⟩,trivial⟩,⟨func394,⟨func650,trivial,trivial⟩,trivial⟩⟩,⟨func202,⟨func330,⟨func586,trivial,trivial⟩,trivial⟩,⟨func458,trivial,trivial⟩⟩⟩,⟨func106,⟨func170,⟨func298,⟨func554,trivial,trivial⟩,trivial⟩,⟨func426,trivial,trivial⟩⟩,⟨func234,⟨func362,⟨func618,trivial,trivial⟩,trivial⟩,⟨func490,trivial,trivial⟩⟩⟩⟩,⟨func58,⟨func90,⟨func154,⟨func282,⟨func538,trivial,trivial⟩,trivial⟩,⟨func410,⟨func666,trivial,trivial⟩,trivial⟩⟩,⟨func218,⟨func346,⟨func602,trivial,trivial⟩,trivial⟩,⟨func474,trivial,trivial⟩⟩⟩,⟨func122,⟨func186,⟨func314,⟨func570,trivial,trivial⟩,trivial⟩,⟨func442,trivial,trivial⟩⟩,⟨func250,⟨func378,⟨func634,trivial,trivial⟩,trivial⟩,⟨func506,trivial,trivial⟩⟩⟩⟩⟩
theorem Zco:JK Ym (fun k=>(2*(2*(2*(2*k+1)+2)+2)+2)) (lt (rt (rt (rt fnT)))):=⟨func22,⟨func38,⟨func70,⟨func134,⟨func262,⟨func518,trivial,trivial⟩,trivial⟩,⟨func390,⟨func646,trivial,trivial⟩,trivial⟩⟩,⟨func198,⟨func326,⟨func582,trivial,trivial⟩,trivial⟩,⟨func454,trivial,trivial⟩⟩⟩,⟨func102,⟨func166,⟨func294,⟨func550,trivial,trivial⟩,trivial⟩,⟨func422,trivial,trivial⟩⟩,⟨func230,⟨func358,⟨func614,trivial,trivial⟩,trivial⟩,⟨func486,trivial,trivial⟩⟩⟩⟩,⟨func54,⟨func86,⟨func150,⟨func278,⟨func534,trivial,trivial⟩,trivial⟩,⟨func406,⟨func662,trivial,trivial⟩,trivial⟩⟩,⟨func214,⟨func342,⟨func598,trivial,trivial⟩,trivial⟩,⟨func470,trivial,trivial⟩⟩⟩,⟨func118,⟨func182,⟨func310,⟨func566,trivial,trivial⟩,trivial⟩,⟨func438,trivial,trivial⟩⟩,⟨func246,⟨func374,⟨func630,trivial,trivial⟩,trivial⟩,⟨func502,trivial,trivial⟩⟩⟩⟩⟩
theorem Zcp:JK Ym (fun k=>(2*(2*(2*(2*k+2)+2)+2)+2)) (rt (rt (rt (rt fnT)))):=⟨func30,⟨func46,⟨func78,⟨func142,⟨func270,⟨func526,trivial,trivial⟩,trivial⟩,⟨func398,⟨func654,trivial,trivial⟩,trivial⟩⟩,⟨func206,⟨func334,⟨func590,trivial,trivial⟩,trivial⟩,⟨func462,trivial,trivial⟩⟩⟩,⟨func110,⟨func174,⟨func302,⟨func558,trivial,trivial⟩,trivial⟩,⟨func430,trivial,trivial⟩⟩,⟨func238,⟨func366,⟨func622,trivial,trivial⟩,trivial⟩,⟨func494,trivial,trivial⟩⟩⟩⟩,⟨func62,⟨func94,⟨func158,⟨func286,⟨func542,trivial,trivial⟩,trivial⟩,⟨func414,⟨func670,trivial,trivial⟩,trivial⟩⟩,⟨func222,⟨func350,⟨func606,trivial,trivial⟩,trivial⟩,⟨func478,trivial,trivial⟩⟩⟩,⟨func126,⟨func190,⟨func318,⟨func574,trivial,trivial⟩,trivial⟩,⟨func446,trivial,trivial⟩⟩,⟨func254,⟨func382,⟨func638,trivial,trivial⟩,trivial⟩,⟨func510,trivial,trivial⟩⟩⟩⟩⟩
theorem Zhc:JK Ym (fun k=>k) fnT:=⟨func0,⟨func1,⟨func3,⟨func7,Zfr,Zfs⟩,⟨func11,Zft,Zfu⟩⟩,⟨func5,⟨func9,Zfv,Zfw⟩,⟨func13,Zfx,Zfy⟩⟩⟩,⟨func2,⟨func4,⟨func8,Zfz,ZfA⟩,⟨func12,Zck,Zcl⟩⟩,⟨func6,⟨func10,Zcm,Zcn⟩,⟨func14,Zco,Zcp⟩⟩⟩⟩
theorem OU (f:FuncId) (fn:Func) (h:fnT.get f=some fn):prog.funcs[f]? = some fn/\(fn.name== "runtime.NumGoroutine")=false :=
 ⟨Zci Zhc h,Vh (bits f) fnT fn Zcj h⟩
end Ev
namespace Ev
open Go
variable [Sig] {P:Program}
theorem LL {f:FuncId} {fn:Func} (hf:P.funcs[f]? = some fn) (hname:(fn.name== "runtime.NumGoroutine")=false) (hb:fn.body.isNone=true) (hn:Extern.findNext fn=none):Qe P f (VH P fn):=by
 intro args s v s' h r w us hr hv;have h:yu P s (Extern.find fn) (toVs args) = .ok v s':=h;unfold yu at h;split at h
 ·rename_i e vs he hvs;obtain ⟨h1,rfl⟩:=Z9 h;have hus:=toVs_ok r args vs us hvs hv;subst hus;obtain ⟨u,h2,h3⟩:=RI (P:=P) (w:=w) (r:=r) h1;refine .inl ⟨u,w,?_,r,Ext.refl hr,h3⟩;rw [run_callFunc_extern hf hname hb hn he,show (⟨us⟩:Array Value)=us.toArray from rfl,h2];rfl
 ·cases h
theorem H6 {w:World} {r:Nat} {es:Array MapEntry} {clock:Nat} (t:TypeId) (hb:w.heap[r]? = some (.map es clock)) :
  (Extern.MapsClone.clone #[.iface t (.map (some r))]).run P w = .ok (.iface t (.map (some w.heap.size))) (w.alloc (.map es clock)):=by
 have e:Extern.MapsClone.clone #[.iface t (.map (some r))]=(getObj r >>= fun o=>match o with
   | .map entries clock=>(newObj (.map entries clock) >>= fun n=>pure (.iface t (.map (some n))))
   | _=>stuck "maps.clone: a map expected"):=rfl
 rw [e];simp [MapKept.run_getObj_map hb,Result.andThen,go_sem]
theorem B1 {f:FuncId} {fn:Func} (hf:P.funcs[f]? = some fn) (hname:(fn.name== "runtime.NumGoroutine")=false) (hb:fn.body.isNone=true) (hn:Extern.findNext fn=none) (he:Extern.find fn=some Extern.MapsClone.clone):Qe P f Fv:=by
 intro args s v s' h r w us hr hv;have h:EC args s=R.ok v s':=h;unfold EC at h;split at h
 ·rename_i t m;cases hv with
  | cons hv ht =>
   cases ht;cases hv with
   | iface _ hv =>
    cases hv with
    | map hm =>
     rename_i x;unfold BY at h;split at h
     ·rename_i es c aG;cases h;obtain ⟨o,h1,h2⟩:=hr.block _ _ _ (Xp aG) hm;obtain ⟨l,rfl,h3⟩:=h2;refine .inl ⟨_,w.alloc (.map ⟨l⟩ c),?_,r.at s.next (RB.of w.heap.size (0) (0)),Ext.new hr rfl (o := .map ⟨l⟩ c) (by show (w.alloc (.map ⟨l⟩ c)).heap[w.heap.size]? = _; unfold World.alloc; exact Array.getElem?_push_size) ⟨l,rfl,h3.mono (r.JU _ (hr.Qb (Nat.le_refl _)))⟩ (fun k hk => ?_) (by simp) rfl rfl rfl,.iface _ (.map (Rho.Zn _ _ _))⟩
      ·rw [run_callFunc_extern hf hname hb hn he];exact congrArg (fun x=>x.andThen fun v w'=>Result.ok (Next.value v) w') (H6 _ h1)
      ·exact Go.RowKit.Below.heap_alloc w _ k hk
     ·cases h
 ·cases h
end Ev
namespace Ev
open Go
variable [Sig] {P:Program}
noncomputable def T8:Array Value->Sem Value:=fun args=>do
 let (x,y,b) ← Extern.MathBitsCarry.three "Sub64" args
 pure (Extern.MathBitsCarry.pair ((x+Extern.MathBitsCarry.m64-y-b)%Extern.MathBitsCarry.m64) (if x<y+b then 1 else 0))
theorem Zhd (x y b:Nat) (hb:b<=1) (w:World) :
  (T8 #[.int .u64 x,.int .u64 y,.int .u64 b]).run P w =
   .ok (.tuple #[.int .u64 (((x+18446744073709551616-y-b)%18446744073709551616:Nat):Int),.int .u64 ((if x<y+b then 1 else 0:Nat):Int)]) w:=by
 have:b=0\/b=1:=by omega
 rcases this with rfl | rfl <;> rfl
theorem KQ {c a b:Int} (h:inU c a b=true):0<=c+a*Sig.x+b*Sig.y/\c+a*Sig.x+b*Sig.y<=18446744073709551615:=by
 have h1:=RJ c a b;have h2:=RK c a b;obtain ⟨h3,h4⟩:=QF h;rw [Xq,decide_eq_true_iff] at h3 h4;have h3:(0:Int)<=WD c a b:=h3;have h4:P7 c a b<=18446744073709551615:=h4;exact ⟨by omega,by omega⟩
theorem Dw {k:IntKind} {c a b d e f:Int} {v w:Zb} {x:V} (h:ED k c a b d e f x = .ok v):k = .u64/\inU c a b=true/\inU d e f=true/\x = .ok v:=by
 unfold ED at h;rcases Ze h with ⟨h1,h⟩ | ⟨_,h⟩
 ·rcases Ze h with ⟨h2,h⟩ | ⟨_,h⟩
  ·rcases Ze h with ⟨h3,h⟩ | ⟨_,h⟩
   ·exact ⟨JE h1,h2,h3,h⟩
   ·cases h
  ·cases h
 ·cases h
theorem R6 {r:Rho} {c a b:Int} {h:Nat} {v:Zb} (e:BZ c a b h = .ok v) {n m:Int} (hn:n=c+a*Sig.x+b*Sig.y) (hm:m=h):VR r v (.tuple #[.int .u64 n,.int .u64 m]):=by
 cases e;subst hm;exact .tuple (.cons (Ee .u64 hn) (.cons (.int _ _) .nil))
theorem Zhe {r:Rho} {c a b:Int} {v:Zb} (h:Zg8 c a b = .ok v) {n:Int} (hn:n=c+a*Sig.x+b*Sig.y):VR r v (.tuple #[.int .u64 (n%18446744073709551616),.int .u64 (n / 18446744073709551616)]):=by
 unfold Zg8 at h;rcases Ze h with ⟨h1,h⟩ | ⟨_,h⟩
 ·obtain ⟨h2,h3⟩:=KQ h1;exact R6 h (by omega) (by omega)
 ·rcases Ze h with ⟨h1,h⟩ | ⟨_,h⟩
  ·obtain ⟨h2,h3⟩:=KQ h1;have e:(Int.ofNat 18446744073709551616)=(18446744073709551616:Int):=rfl;rw [e] at h h2 h3;exact R6 h (by omega) (by omega)
  ·cases h
theorem Zhf {r:Rho} {c a b:Int} {v:Zb} (h:Zg9 c a b = .ok v) {n:Int} (hn:n=c+a*Sig.x+b*Sig.y) (hlo : -18446744073709551616<=n) (hhi:n<=18446744073709551615) :
  VR r v (.tuple #[.int .u64 ((n+18446744073709551616)%18446744073709551616),.int .u64 (if n<0 then 1 else 0)]):=by
 unfold Zg9 at h;rcases Ze h with ⟨h1,h⟩ | ⟨_,h⟩
 ·obtain ⟨h2,h3⟩:=KQ h1;exact R6 h (by omega) (by rw [if_neg (by omega)]; rfl)
 ·rcases Ze h with ⟨h1,h⟩ | ⟨_,h⟩
  ·obtain ⟨h2,h3⟩:=KQ h1;have e:(Int.ofNat 18446744073709551616)=(18446744073709551616:Int):=rfl;rw [e] at h h2 h3;by_cases hneg:n<0
   ·exact R6 h (by omega) (by rw [if_pos hneg]; rfl)
   ·omega
  ·cases h
theorem Zhg {p:Sy} (h:IW p=true):∃ k c a b d e f,p = .mk k c a b d e f:=by
 cases p with
 | none=>cases h
 | mk k c a b d e f=>exact ⟨k,c,a,b,d,e,f,rfl⟩
theorem PT {f:FuncId} {fn:Func} (sub:Bool) (hf:P.funcs[f]? = some fn) (hname:(fn.name== "runtime.NumGoroutine")=false) (hb:fn.body.isNone=true) (hn:Extern.findNext fn=none)
  (he:Extern.find fn=some (if sub then T8 else add64Entry)):Qe P f (VG sub (VH P fn)):=by
 intro args s v s' h r w us hr hv;unfold VG at h;simp only at h;have jV:=LL hf hname hb hn;split at h
 ·rename_i x y z;rcases Ze h with ⟨h1,h⟩ | ⟨_,h⟩
  ·obtain ⟨h2,rfl⟩:=Z9 h;obtain ⟨k,c,a,b,d,e,g,hp⟩:=Zhg h1;rw [hp] at h2;cases hv with
   | cons hx ht=>cases ht with
    | cons hy ht=>cases ht with
     | cons hz ht =>
      cases ht;cases hz;obtain ⟨rfl,rfl⟩:=Vb hp hx hy;cases sub
      ·have h2:sel (Nat.ble z 1) (ED k c a b d e g (Zg8 (c+d + .ofNat z) (a+e) (b+g))) .bad = .ok v:=h2;rcases Ze h2 with ⟨h3,h2⟩ | ⟨_,h2⟩
       ·obtain ⟨rfl,h4,h5,h6⟩:=Dw (w:=v) h2;obtain ⟨h7,h8⟩:=KQ h4;obtain ⟨h9,h10⟩:=KQ h5;have hz:=Ql h3;refine .inl ⟨_,w,?_,r,Ext.refl hr,Zhe h6 (n:=(c+a*Sig.x+b*Sig.y)+(d+e*Sig.x+g*Sig.y)+z) (by rw [Int.add_mul,Int.add_mul]; show _=c+d+(z:Int)+_+_; omega)⟩;rw [run_callFunc_extern hf hname hb hn he];show ((add64Entry #[_,_,_]).run P w).andThen _=_;rw [show (Int.ofNat z)=(z:Int) from rfl,run_add64 _ _ _ h7 h9 (by omega) (by omega)];rfl
       ·cases h2
      ·have h2:sel (Nat.ble z 1) (ED k c a b d e g (Zg9 (c-d - .ofNat z) (a-e) (b-g))) .bad = .ok v:=h2;rcases Ze h2 with ⟨h3,h2⟩ | ⟨_,h2⟩
       ·obtain ⟨rfl,h4,h5,h6⟩:=Dw (w:=v) h2;obtain ⟨h7,h8⟩:=KQ h4;obtain ⟨h9,h10⟩:=KQ h5;have hz:=Ql h3;have hE:(c+a*Sig.x+b*Sig.y)-(d+e*Sig.x+g*Sig.y)-z=c-d-(z:Int)+(a-e)*Sig.x+(b-g)*Sig.y:=by rw [Int.sub_mul,Int.sub_mul]; omega
        have hres:=Zhf (r:=r) h6 (n:=(c+a*Sig.x+b*Sig.y)-(d+e*Sig.x+g*Sig.y)-z) hE (by omega) (by omega)
        generalize c+a*Sig.x+b*Sig.y=X at h7 h8 hres
        generalize d+e*Sig.x+g*Sig.y=Y at h9 h10 hres
        obtain ⟨X,rfl⟩:=Int.eq_ofNat_of_zero_le h7;obtain ⟨Y,rfl⟩:=Int.eq_ofNat_of_zero_le h9;refine .inl ⟨_,w,?_,r,Ext.refl hr,hres⟩;rw [run_callFunc_extern hf hname hb hn he];show ((T8 #[_,_,_]).run P w).andThen _=_;rw [show (Int.ofNat z)=(z:Int) from rfl,Zhd _ _ _ hz];have e1:(((X+18446744073709551616-Y-z)%18446744073709551616:Nat):Int)=((X:Int)-Y-z+18446744073709551616)%18446744073709551616:=by omega
        have e2:((if X<Y+z then 1 else 0:Nat):Int)=(if (X:Int)-Y-z<0 then 1 else 0):=by
         by_cases hlt:X<Y+z
         ·rw [if_pos hlt,if_pos (by omega)]; rfl
         ·rw [if_neg hlt,if_neg (by omega)]; rfl
        rw [e1,e2];rfl
       ·cases h2
  ·exact jV _ s v s' h r w us hr hv
 ·exact jV _ s v s' h r w us hr hv
theorem B3 {r:Rho} {c a b:Int} {v:Zb} (h:ZaX c a b = .ok v) {n:Int} (hn:n=c+a*Sig.x+b*Sig.y):VR r v (.tuple #[.int .u64 (n / 18446744073709551616),.int .u64 (n%18446744073709551616)]):=by
 unfold ZaX at h;rcases Ze h with ⟨h1,h⟩ | ⟨_,h⟩
 ·cases h;obtain ⟨h2,h3⟩:=KQ h1;have e1:n / 18446744073709551616=Int.ofNat 0:=by show _=(0:Int); omega
  have e2:n%18446744073709551616=n:=by omega
  rw [e1,e2];exact .tuple (.cons (.int _ _) (.cons (Ee .u64 hn) .nil))
 ·cases h
theorem Zhh {r:Rho} {c a b d e f:Int} {v:Zb} (h:Zkf c a b d e f = .ok v) {n:Int} (hn:n=(c+a*Sig.x+b*Sig.y)*(d+e*Sig.x+f*Sig.y)) :
  VR r v (.tuple #[.int .u64 (n / 18446744073709551616),.int .u64 (n%18446744073709551616)]):=by
 unfold Zkf at h;rcases Ze h with ⟨h1,h2⟩ | ⟨_,h2⟩
 ·obtain ⟨h6,h7⟩:=QF h1;rw [QS] at h6 h7;have h6:a=0:=eq_of_beq h6;have h7:b=0:=eq_of_beq h7;subst h6 h7;refine B3 h2 ?_;rw [hn,Int.zero_mul,Int.zero_mul,Int.add_zero,Int.add_zero,Int.mul_add,Int.mul_add,Int.mul_assoc,Int.mul_assoc]
 ·rcases Ze h2 with ⟨h1,h2⟩ | ⟨_,h2⟩
  ·obtain ⟨h6,h7⟩:=QF h1;rw [QS] at h6 h7;have h6:e=0:=eq_of_beq h6;have h7:f=0:=eq_of_beq h7;subst h6 h7;refine B3 h2 ?_;rw [hn,Int.zero_mul,Int.zero_mul,Int.add_zero,Int.add_zero,Int.mul_comm _ d,Int.mul_add,Int.mul_add,Int.mul_assoc,Int.mul_assoc]
  ·cases h2
theorem mul_right {f:FuncId} {fn:Func} {b:Code} (hf:P.funcs[f]? = some fn) (hname:(fn.name== "runtime.NumGoroutine")=false) (hb:fn.body=some b)
  (hc:∀ (x y:Nat),x<18446744073709551616->y<18446744073709551616->∀ w,Calls P f #[.int .u64 x,.int .u64 y] w fun e w'=>e = .returned (.tuple #[.int .u64 ((x*y / 18446744073709551616:Nat):Int),.int .u64 ((x*y%18446744073709551616:Nat):Int)])/\w'=w):Qe P f ZfN:=by
 intro args s v s' h r w us hr hv
 have hcf:∀ args w,(callFunc f args).run P w = .ok (.enter f args) w:=fun args w=>by
  have hname':fn.name≠ "runtime.NumGoroutine":=by simpa using hname
  simp [callFunc,hf,hname',hb]
 have h:mulR args s = .ok v s':=h;unfold mulR at h;split at h
 ·rename_i x y;obtain ⟨h1,rfl⟩:=Z9 h;cases hv with
  | cons hx ht=>cases ht with
   | cons hy ht =>
    cases ht;unfold ZlQ at h1;split at h1
    ·rename_i a b';cases hx;cases hy;unfold mulN at h1;rcases Ze h1 with ⟨h2,h1⟩ | ⟨_,h1⟩
     ·rcases Ze h1 with ⟨h3,h1⟩ | ⟨_,h1⟩
      ·cases h1;refine .inr ⟨hcf _ _,(hc a b' (QI h2) (QI h3) w).mono fun e w' ⟨he,hw⟩=>⟨_,he,r,by subst hw; exact Ext.refl hr,.tuple (.cons (.int _ _) (.cons (.int _ _) .nil))⟩⟩
      ·cases h1
     ·cases h1
    ·unfold ZlP at h1;split at h1
     ·rename_i k c a b' d e g hp;obtain ⟨rfl,h4,h5,h6⟩:=Dw (w:=v) h1;obtain ⟨rfl,rfl⟩:=Vb hp hx hy;obtain ⟨h7,h8⟩:=KQ h4;obtain ⟨h9,h10⟩:=KQ h5;have hres:=Zhh (r:=r) h6 rfl
      generalize c+a*Sig.x+b'*Sig.y=X at h7 h8 hres
      generalize d+e*Sig.x+g*Sig.y=Y at h9 h10 hres
      obtain ⟨X,rfl⟩:=Int.eq_ofNat_of_zero_le h7;obtain ⟨Y,rfl⟩:=Int.eq_ofNat_of_zero_le h9;refine .inr ⟨hcf _ _,(hc X Y (by omega) (by omega) w).mono fun e w' ⟨he,hw⟩=>⟨_,he,r,by subst hw; exact Ext.refl hr,?_⟩⟩;rw [Int.natCast_ediv,Int.natCast_emod,Int.natCast_mul];exact hres
     ·cases h1
 ·cases h
end Ev
namespace Ev
open Go
variable [Sig] {P:Program}
theorem YR {K:ZK} {r:Rho} {s s':St} {w:World} {e:Env} {a:Act} (hr:Rel r s w) (he:Qr K r e a) {ops:Array Oper} {j:Nat} {o:Oper} (ho:ops[j]? = some o) (hg:o.guard=none) (hd:QB K o=true) {v:Zb}
  (hrun:(comp (Jz 0 .nil) P (fun _ _ _ => .bad) o.op).run [] e s = .ok v s') {Q:Exit->Act->World->Prop} {Kn:Act->World->Prop}
  (hK:∀ q a' w',Ext r s w q s' w'->Qr K q (Wk e v (Xb K o)) a'->Kn a' w'):wpOp P ops Q j Kn a w:=by
 have fA:Z7 P (fun _ _ _=>R.bad):=fun f args s v s' h=>by cases h
 unfold wpOp;rw [ho];simp only;have hw:Region.wanted o (yielded ops a.tmps)=true:=by unfold Region.wanted; rw [hg]
 rw [hw,if_pos rfl];refine .inl ((PR fA hrun).ok hr ((Inv.start hr he).cx o.op) _ _ fun q u w' hx aP => ?_);exact hK q _ w' hx (he.put hx.le hd aP)
theorem run_load {P:Program} {ty:TypeId} (hw:JS P ty = .mk 0 1 false) {u:Tmp} {e:Env} {s:St} {n:Nat} {c:Zb} (he:e.get u=some (.ptr n 0)) (hs:s.get n=some (.cells [c] 0 false)) :
  (comp (Jz 0 .nil) P (fun _ _ _ => .bad) (.load ty (.tmp u))).run [] e s = .ok c s:=by
 show V.then (fun v=>V.ret s (Gs s (JS P ty) v)) (Zl [] e (.tmp (bits u)))=_
 have h1:Zl [] e (.tmp (bits u)) = .ok (.ptr n 0):=by
  show V.ofO (e.get u)=_;rw [he]; rfl
 rw [h1,hw];show V.ret s (xO (.mk 0 1 false) 0 (UY (s.get n)))=_;rw [hs];rfl
theorem run_store {P:Program} {ty:TypeId} (hw:JS P ty = .mk 0 1 false) {u:Tmp} {e:Env} {s:St} {n:Nat} {c:Zb} {b:Bool} (he:e.get u=some (.ptr n 0)) (hs:s.get n=some (.cells [c] 0 false)) :
  (comp (Jz 0 .nil) P (fun _ _ _ => .bad) (.store ty (.tmp u) (.const (.bool b)))).run [] e s = .ok QH (s.put n (.cells [.bool b] 0 false)):=by
 show V.then (fun v=>V.then (SV s (JS P ty) v) (Zl [] e (.tmp (bits u)))) (Zl [] e (.val (.bool b)))=_
 have h1:Zl [] e (.tmp (bits u)) = .ok (.ptr n 0):=by
  show V.ofO (e.get u)=_;rw [he]; rfl
 rw [h1,hw];show SU s (.mk 0 1 false) (.bool b) n 0 (UY (s.get n))=_;rw [hs];rfl
theorem Uu (hm:P.follows .mixedOrders=true) {K:ZK} {id:Nat} {ops:Array Oper} {t u ty:Nat} {o0 o1 o2 o3:Oper} (h0:ops[0]? = some o0) (h1:ops[1]? = some o1) (h2:ops[2]? = some o2) (h3:ops[3]? = some o3) (hsz:ops.size=4)
  (d0:o0.dst=some u) (d1:o1.dst=none) (d2:o2.dst=none) (d3:o3.dst=some t) (p0:o0.op = .alloc ty) (p1:o1.op = .store ty (.tmp u) (.const (.bool true))) (p2:o2.op = .store ty (.tmp u) (.const (.bool false)))
  (p3:o3.op = .load ty (.tmp u)) (g0:o0.guard=none) (g1:o1.guard=none) (g2:o2.guard=none) (g3:o3.guard=none)
  (r0:Region.ready .any ops #[false,false,false,false]=[0]) (r1:Region.ready .any ops #[true,false,false,false]=[1,2]) (r2:Region.ready .any ops #[true,true,false,false]=[2]) (r3:Region.ready .any ops #[true,false,true,false]=[1])
  (r4:Region.ready .any ops #[true,true,true,false]=[3]) (r5:Region.ready .any ops #[true,true,true,true]=[]) (hz:Wc P ty=some (.bool false)) (hw:JS P ty = .mk 0 1 false) (htu:t≠u) (hkt:K.Zf t=true) (htn:t<K.n) (hun:u<K.n) :
  Zv P K (.region id ops true) (Pr t u):=by
 intro e s _ r w a Q hr he hQ;have hn0:s.get s.next=none:=hr.far _ (Nat.le_refl _);refine wp_region_any hm ?_;rw [hsz];have he':Qr ⟨K.n,fun _=>true⟩ r e a:=⟨fun t v h=>⟨rfl,(he.env t v h).2⟩,he.size,he.defers⟩
 have hr':Rel r s { w with drawn:=w.drawn+1 }:=hr.drawn _
 have fin:∀ (b:Bool) (sF:St) (eF:Env) (q:Rho) (a':Act) (w':World),Ext r s { w with drawn:=w.drawn+1 } q sF w'->Qr ⟨K.n,fun _=>true⟩ q eF a'->sF.next=s.next+1->(∀ i,i≠s.next->sF.get i=s.get i) ->
   eF.get t=some (.bool b)->(∀ x,x≠t->x≠u->eF.get x=e.get x)->Q .normal a' w':=fun b sF eF q a' w' hx hE hnx hget ht hoth=>by
  refine hQ .normal ((e.set u none).set t (some (.bool b))) ⟨s.heap,s.next+1⟩ ?_ q a' w' (((Ext.drawn hr _).trans hx).forget (fun i c hc => ?_) hnx.symm) ⟨fun x v hv => ?_,hE.size,hE.defers⟩
  ·unfold Pr; cases b
   ·exact List.mem_cons_of_mem _ List.mem_cons_self
   ·exact List.mem_cons_self
  ·have hc:s.get i=some c:=hc;rw [hget i fun e=>by subst e; rw [hn0] at hc; cases hc];exact hc
  ·rw [JN] at hv;by_cases h1:t=x
   ·subst h1;rw [if_pos rfl] at hv;cases hv;exact ⟨hkt,(hE.env t _ ht).2⟩
   ·rw [if_neg h1,JN] at hv;by_cases h2:u=x
    ·rw [if_pos h2] at hv; cases hv
    ·rw [if_neg h2] at hv;exact ⟨(he.env x v hv).1,(hE.env x v (by rw [hoth x (Ne.symm h1) (Ne.symm h2)]; exact hv)).2⟩
 have last:∀ (b:Bool) (sF:St) (e1:Env) (q:Rho) (a':Act) (w':World),Ext r s { w with drawn:=w.drawn+1 } q sF w'->Qr ⟨K.n,fun _=>true⟩ q e1 a'->sF.next=s.next+1->(∀ i,i≠s.next->sF.get i=s.get i) ->
   e1.get u=some (.ptr s.next 0)->sF.get s.next=some (.cells [.bool b] 0 false)->(∀ x,x≠u->e1.get x=e.get x)->wpAny P .any ops Q 1 #[true,true,true,false] a' w':=fun b sF e1 q a' w' hx hE hnx hget hu hc hoth=>by
  refine ⟨fun h=>(by rw [r4] at h; cases h),fun j hj => ?_⟩;rw [r4] at hj;rcases List.mem_singleton.1 hj with rfl;refine YR hx.rel hE h3 g3 (by unfold QB; rw [d3]; exact Nat.ble_eq_true_of_le htn) (by rw [p3]; exact run_load hw hu hc) fun q' a'' w'' hx' hE' => ?_;refine ⟨r5,?_⟩;have hd:Xb ⟨K.n,fun _=>true⟩ o3=some (bits t):=by unfold Xb; rw [d3]; rfl
  rw [hd] at hE';have hE':Qr ⟨K.n,fun _=>true⟩ q' (e1.set t (some (.bool b))) a'':=hE';exact fin b sF _ q' a'' w'' (hx.trans hx') hE' hnx hget (Va _ _ _) fun x h1 h2=>by rw [TE _ _ (Ne.symm h1)]; exact hoth x h2
 refine ⟨fun h=>(by have h:Region.ready .any ops #[false,false,false,false]=[]:=h; rw [r0] at h; cases h),fun j hj => ?_⟩;have hj:j∈Region.ready .any ops #[false,false,false,false]:=hj;rw [r0] at hj;rcases List.mem_singleton.1 hj with rfl
 have qm:(comp (Jz 0 .nil) P (fun _ _ _ => .bad) o0.op).run [] e s = .ok (.ptr s.next 0) (s.new (.cells [.bool false] 0 false)):=by
  rw [p0];show Mm (Wc P ty) [] e s=_;rw [hz]; rfl
 refine YR hr' he' h0 g0 (by unfold QB; rw [d0]; exact Nat.ble_eq_true_of_le hun) qm fun q a1 w1 hx1 hE1 => ?_;have hd:Xb ⟨K.n,fun _=>true⟩ o0=some (bits u):=by unfold Xb; rw [d0]; rfl
 rw [hd] at hE1;have hE1:Qr ⟨K.n,fun _=>true⟩ q (e.set u (some (.ptr s.next 0))) a1:=hE1;have hu1:(e.set u (some (.ptr s.next 0))).get u=some (.ptr s.next 0):=Va _ _ _;have hot:∀ x,x≠u->(e.set u (some (.ptr s.next 0))).get x=e.get x:=fun x hx=>TE _ _ (Ne.symm hx);have hc1:(s.new (.cells [.bool false] 0 false)).get s.next=some (.cells [.bool false] 0 false):=by rw [St.ZC,if_pos rfl]
 have hg1':∀ i,i≠s.next->(s.new (.cells [.bool false] 0 false)).get i=s.get i:=fun i hi=>by rw [St.ZC,if_neg (Ne.symm hi)]
 have hnx1:(s.new (.cells [.bool false] 0 false)).next=s.next+1:=St.Qo _ _
 generalize (s.new (.cells [.bool false] 0 false))=s1 at hx1 hc1 hg1' hnx1
 generalize e.set u (some (.ptr s.next 0))=e1 at hE1 hu1 hot
 have sI:∀ {o:Oper} {v:Zb},o.dst=none->Wk e1 v (Xb ⟨K.n,fun _=>true⟩ o)=e1:=fun {o v} h=>by unfold Xb; rw [h]; rfl
 have jr:∀ {o:Oper},o.dst=none->QB ⟨K.n,fun _=>true⟩ o=true:=fun {o} h=>by unfold QB; rw [h]
 have jv:∀ (sA:St) (b:Bool),sA.next=s.next+1->(∀ i,i≠s.next->sA.get i=s.get i)->(sA.put s.next (.cells [.bool b] 0 false)).next=s.next+1/\(∀ i,i≠s.next->(sA.put s.next (.cells [.bool b] 0 false)).get i=s.get i) /\
   (sA.put s.next (.cells [.bool b] 0 false)).get s.next=some (.cells [.bool b] 0 false):=fun sA b h1 h2=>⟨h1,fun i hi=>by rw [St.Jb,if_neg (Ne.symm hi)]; exact h2 i hi,by rw [St.Jb,if_pos rfl]⟩
 refine ⟨fun h=>(by have h:Region.ready .any ops #[true,false,false,false]=[]:=h; rw [r1] at h; cases h),fun j hj => ?_⟩;have hj:j∈Region.ready .any ops #[true,false,false,false]:=hj;rw [r1] at hj;rcases List.mem_cons.1 hj with rfl | hj
 ·refine YR hx1.rel hE1 h1 g1 (jr d1) (by rw [p1]; exact run_store hw hu1 hc1) fun q2 a2 w2 hx2 hE2 => ?_;rw [sI d1] at hE2;obtain ⟨k1,k2,k3⟩:=jv s1 true hnx1 hg1';refine ⟨fun h=>(by have h:Region.ready .any ops #[true,true,false,false]=[]:=h; rw [r2] at h; cases h),fun j hj => ?_⟩;have hj:j∈Region.ready .any ops #[true,true,false,false]:=hj;rw [r2] at hj;rcases List.mem_singleton.1 hj with rfl;refine YR hx2.rel hE2 h2 g2 (jr d2) (by rw [p2]; exact run_store hw hu1 k3) fun q3 a3 w3 hx3 qo => ?_;rw [sI d2] at qo;obtain ⟨l1,l2,l3⟩:=jv _ false k1 k2;exact last false _ e1 q3 a3 w3 ((hx1.trans hx2).trans hx3) qo l1 l2 hu1 l3 hot
 ·rcases List.mem_singleton.1 hj with rfl;refine YR hx1.rel hE1 h2 g2 (jr d2) (by rw [p2]; exact run_store hw hu1 hc1) fun q2 a2 w2 hx2 hE2 => ?_;rw [sI d2] at hE2;obtain ⟨k1,k2,k3⟩:=jv s1 false hnx1 hg1';refine ⟨fun h=>(by have h:Region.ready .any ops #[true,false,true,false]=[]:=h; rw [r3] at h; cases h),fun j hj => ?_⟩;have hj:j∈Region.ready .any ops #[true,false,true,false]:=hj;rw [r3] at hj;rcases List.mem_singleton.1 hj with rfl;refine YR hx2.rel hE2 h1 g1 (jr d1) (by rw [p1]; exact run_store hw hu1 k3) fun q3 a3 w3 hx3 qo => ?_;rw [sI d1] at qo;obtain ⟨l1,l2,l3⟩:=jv _ true k1 k2;exact last true _ e1 q3 a3 w3 ((hx1.trans hx2).trans hx3) qo l1 l2 hu1 l3 hot
end Ev
namespace Ev
open Go Go.Proofs Go.Shelf
variable [Sig]
theorem Qt:prog.follows .mixedOrders=true:=by kernel_rfl
def ZlV (n:Nat):FuncId:=match n with
 | 264=>403
 | _=>0
def ZlW (n:Nat):TypeId:=match n with
 | 46=>209
 | 53=>289
 | _=>0
def Zmn:Ren:=⟨ZlV,ZlW,fun x=>x⟩
theorem Zhv:Lays.n264 prog Zmn where
 mixed:=by kernel_rfl
 f264:=by kernel_rfl
 t46:=by kernel_rfl
 a46:=fun _=>by kernel_rfl
 z46:=fun _=>by kernel_rfl
 v46:=fun _=>by kernel_rfl
 t53:=by kernel_rfl
 a53:=fun _=>by kernel_rfl
 z53:=fun _=>by kernel_rfl
 v53:=fun _=>by kernel_rfl
theorem Zik:Qe prog 403 ZfN :=
 mul_right func403 (by kernel_rfl) rfl fun x y hx hy w=>Any.bits_Mul64 Zhv x y hx hy w
theorem Zdh:Qe prog 594 (VG false (VH prog Tryz.f594)) :=
 PT false func594 (by kernel_rfl) (by kernel_rfl) (by kernel_rfl) (by kernel_rfl)
theorem Zdi:Qe prog 593 (VG true (VH prog Tryz.f593)) :=
 PT true func593 (by kernel_rfl) (by kernel_rfl) (by kernel_rfl) (by kernel_rfl)
theorem Zdj:Qe prog 218 (VH prog Tryz.f218) :=
 LL func218 (by kernel_rfl) (by kernel_rfl) (by kernel_rfl)
theorem Zdg:Qe prog 401 Fv :=
 B1 func401 (by kernel_rfl) (by kernel_rfl) (by kernel_rfl) (by kernel_rfl)
end Ev
end Go.Proofs.YtheflbaejhlboaaGreatDoor
