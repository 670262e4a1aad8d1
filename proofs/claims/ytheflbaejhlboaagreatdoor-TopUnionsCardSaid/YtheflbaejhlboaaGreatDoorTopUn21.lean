/- A part of the proof of a law of package confluencetop: lemmas, no condition of ours. -/
import Derived.Test.YtheflbaejhlboaaGreatDoorTopUn20
import Derived.Laws.Externs
import Derived.MapKept
import Derived.Below
import Derived.Shelf.Bits.Mul64
import Derived.Test.YtheflbaejhlboaaGreatDoorTopUn19
import Derived.KernelRfl
set_option linter.unusedVariables false
set_option linter.unusedSectionVars false
set_option linter.unusedSimpArgs false
namespace Go.Proofs.YtheflbaejhlboaaGreatDoor.Ev
open Go Go.Proofs
set_option maxRecDepth 100000
def D3:List Bool→Nat
 | []=>0
 | true::p=>2*D3 p+1
 | false::p=>2*D3 p+2
theorem NC:∀ (f n:Nat),n≤f→D3 (SB f n)=n
 | 0,n,h=>by
  have:n=0:=by omega
  subst this
  rfl
 | f+1,n,h=>by
  rw [XH]
  by_cases hn:n=0
  ·rw [if_pos hn,hn]; rfl
  ·rw [if_neg hn]
   have ih:=NC f ((n-1) / 2) (by omega)
   cases hb:Nat.beq (n%2) 1
   ·have h2:n%2≠1:=fun e=>by rw [e] at hb; cases hb
    show 2*D3 _+2=n
    rw [ih]
    omega
   ·have h2:n%2=1:=Nat.eq_of_beq_eq_true hb
    show 2*D3 _+1=n
    rw [ih]
    omega
def Jj (Q:Nat→Func→Prop) (i:Nat→Nat):Tr Func→Prop
 | .lf=>True
 | .nd v l r=>(match v with | some a=>Q (i 0) a | none=>True)∧Jj Q (fun k=>i (2*k+1)) l∧Jj Q (fun k=>i (2*k+2)) r
theorem Yq {Q:Nat→Func→Prop}:∀ (p:List Bool) (i:Nat→Nat) (t:Tr Func) (a:Func),Jj Q i t→Tr.RQ p t=some a→Q (i (D3 p)) a
 | [],i,.lf,a,_,h=>by cases h
 | [],i,.nd v l r,a,h,e=>by
  have e:v=some a:=e
  subst e
  exact h.1
 | true::p,i,.lf,a,_,h=>by cases h
 | false::p,i,.lf,a,_,h=>by cases h
 | true::p,i,.nd v l r,a,h,e=>Yq p (fun k=>i (2*k+1)) l a h.2.1 e
 | false::p,i,.nd v l r,a,h,e=>Yq p (fun k=>i (2*k+2)) r a h.2.2 e
theorem UC {Q:Nat→Func→Prop} {t:Tr Func} (h:Jj Q (fun k=>k) t) {n:Nat} {a:Func} (e:t.get n=some a):Q n a:=by
 have:=Yq (bits n) (fun k=>k) t a h e
 rw [show D3 (bits n)=n from NC n n (Nat.le_refl _)] at this
 exact this
noncomputable def lt (t:Tr Func):Tr Func:=match t with
 | .nd _ l _=>l
 | .lf => .lf
noncomputable def rt (t:Tr Func):Tr Func:=match t with
 | .nd _ _ r=>r
 | .lf => .lf
theorem Bq {a b:Bool} (h:sel a b false=true):a=true∧b=true:=by
 cases a
 ·cases h
 ·exact ⟨rfl,h⟩
noncomputable def Xj (t:Tr Func):Bool:=@Tr.rec Func (fun _=>Bool) true (fun v _ _ a b=>@Option.rec Func (fun _=>Bool) (sel a b false) (fun f=>sel (f.name== "runtime.NumGoroutine") false (sel a b false)) v) t
theorem Wd:∀ (p:List Bool) (t:Tr Func) (a:Func),Xj t=true→Tr.RQ p t=some a→(a.name== "runtime.NumGoroutine")=false
 | [],.lf,a,_,h=>by cases h
 | [],.nd v l r,a,h,e=>by
  have e:v=some a:=e
  subst e
  have h:sel (a.name== "runtime.NumGoroutine") false (sel (Xj l) (Xj r) false)=true:=h
  cases hn:(a.name== "runtime.NumGoroutine")
  ·rfl
  ·rw [hn] at h; cases h
 | true::p,.lf,a,_,h=>by cases h
 | false::p,.lf,a,_,h=>by cases h
 | b::p,.nd v l r,a,h,e=>by
  have h2:Xj l=true∧Xj r=true:=by
   cases v with
   | none =>
    have h:sel (Xj l) (Xj r) false=true:=h
    exact Bq h
   | some f =>
    have h:sel (f.name== "runtime.NumGoroutine") false (sel (Xj l) (Xj r) false)=true:=h
    cases hn:(f.name== "runtime.NumGoroutine")
    ·rw [hn] at h; exact Bq h
    ·rw [hn] at h; cases h
  cases b
  ·exact Wd p r a h2.2 e
  ·exact Wd p l a h2.1 e
theorem UD:Xj fnT=true:=by decide +kernel
abbrev W9 (n:Nat) (f:Func):Prop:=Tryz.prog.funcs[n]? = some f
theorem Zbd:Jj W9 (fun k=>(2*(2*(2*(2*k+1)+1)+1)+1)) (lt (lt (lt (lt fnT)))):=⟨Tryz.func15,⟨Tryz.func31,⟨Tryz.func63,⟨Tryz.func127,⟨Tryz.func255,⟨Tryz.func511,trivial,trivial⟩,trivial⟩,⟨Tryz.func383,⟨Tryz.func639,trivial,trivial⟩,trivial⟩⟩,⟨Tryz.func191,⟨Tryz.func319,⟨Tryz.func575,trivial,trivial⟩,trivial⟩,⟨Tryz.func447,trivial,trivial⟩⟩⟩,⟨Tryz.func95,⟨Tryz.func159,⟨Tryz.func287,⟨Tryz.func543,trivial,trivial⟩,trivial⟩,⟨Tryz.func415,⟨Tryz.func671,trivial,trivial⟩,trivial⟩⟩,⟨Tryz.func223,⟨Tryz.func351,⟨Tryz.func607,trivial,trivial⟩,trivial⟩,⟨Tryz.func479,trivial,trivial⟩⟩⟩⟩,⟨Tryz.func47,⟨Tryz.func79,⟨Tryz.func143,⟨Tryz.func271,⟨Tryz.func527,trivial,trivial⟩,trivial⟩,⟨Tryz.func399,⟨Tryz.func655,trivial,trivial⟩,trivial⟩⟩,⟨Tryz.func207,⟨Tryz.func335,⟨Tryz.func591,trivial,trivial⟩,trivial⟩,⟨Tryz.func463,trivial,trivial⟩⟩⟩,⟨Tryz.func111,⟨Tryz.func175,⟨Tryz.func303,⟨Tryz.func559,trivial,trivial⟩,trivial⟩,⟨Tryz.func431,trivial,trivial⟩⟩,⟨Tryz.func239,⟨Tryz.func367,⟨Tryz.func623,trivial,trivial⟩,trivial⟩,⟨Tryz.func495,trivial,trivial⟩⟩⟩⟩⟩
theorem Zbe:Jj W9 (fun k=>(2*(2*(2*(2*k+2)+1)+1)+1)) (rt (lt (lt (lt fnT)))):=⟨Tryz.func23,⟨Tryz.func39,⟨Tryz.func71,⟨Tryz.func135,⟨Tryz.func263,⟨Tryz.func519,trivial,trivial⟩,trivial⟩,⟨Tryz.func391,⟨Tryz.func647,trivial,trivial⟩,trivial⟩⟩,⟨Tryz.func199,⟨Tryz.func327,⟨Tryz.func583,trivial,trivial⟩,trivial⟩,⟨Tryz.func455,trivial,trivial⟩⟩⟩,⟨Tryz.func103,⟨Tryz.func167,⟨Tryz.func295,⟨Tryz.func551,trivial,trivial⟩,trivial⟩,⟨Tryz.func423,trivial,trivial⟩⟩,⟨Tryz.func231,⟨Tryz.func359,⟨Tryz.func615,trivial,trivial⟩,trivial⟩,⟨Tryz.func487,trivial,trivial⟩⟩⟩⟩,⟨Tryz.func55,⟨Tryz.func87,⟨Tryz.func151,⟨Tryz.func279,⟨Tryz.func535,trivial,trivial⟩,trivial⟩,⟨Tryz.func407,⟨Tryz.func663,trivial,trivial⟩,trivial⟩⟩,⟨Tryz.func215,⟨Tryz.func343,⟨Tryz.func599,trivial,trivial⟩,trivial⟩,⟨Tryz.func471,trivial,trivial⟩⟩⟩,⟨Tryz.func119,⟨Tryz.func183,⟨Tryz.func311,⟨Tryz.func567,trivial,trivial⟩,trivial⟩,⟨Tryz.func439,trivial,trivial⟩⟩,⟨Tryz.func247,⟨Tryz.func375,⟨Tryz.func631,trivial,trivial⟩,trivial⟩,⟨Tryz.func503,trivial,trivial⟩⟩⟩⟩⟩
theorem Zbf:Jj W9 (fun k=>(2*(2*(2*(2*k+1)+2)+1)+1)) (lt (rt (lt (lt fnT)))):=⟨Tryz.func19,⟨Tryz.func35,⟨Tryz.func67,⟨Tryz.func131,⟨Tryz.func259,⟨Tryz.func515,trivial,trivial⟩,trivial⟩,⟨Tryz.func387,⟨Tryz.func643,trivial,trivial⟩,trivial⟩⟩,⟨Tryz.func195,⟨Tryz.func323,⟨Tryz.func579,trivial,trivial⟩,trivial⟩,⟨Tryz.func451,trivial,trivial⟩⟩⟩,⟨Tryz.func99,⟨Tryz.func163,⟨Tryz.func291,⟨Tryz.func547,trivial,trivial⟩,trivial⟩,⟨Tryz.func419,⟨Tryz.func675,trivial,trivial⟩,trivial⟩⟩,⟨Tryz.func227,⟨Tryz.func355,⟨Tryz.func611,trivial,trivial⟩,trivial⟩,⟨Tryz.func483,trivial,trivial⟩⟩⟩⟩,⟨Tryz.func51,⟨Tryz.func83,⟨Tryz.func147,⟨Tryz.func275,⟨Tryz.func531,trivial,trivial⟩,trivial⟩,⟨Tryz.func403,⟨Tryz.func659,trivial,trivial⟩,trivial⟩⟩,⟨Tryz.func211,⟨Tryz.func339,⟨Tryz.func595,trivial,trivial⟩,trivial⟩,⟨Tryz.func467,trivial,trivial⟩⟩⟩,⟨Tryz.func115,⟨Tryz.func179,⟨Tryz.func307,⟨Tryz.func563,trivial,trivial⟩,trivial⟩,⟨Tryz.func435,trivial,trivial⟩⟩,⟨Tryz.func243,⟨Tryz.func371,⟨Tryz.func627,trivial,trivial⟩,trivial⟩,⟨Tryz.func499,trivial,trivial⟩⟩⟩⟩⟩
theorem Zbg:Jj W9 (fun k=>(2*(2*(2*(2*k+2)+2)+1)+1)) (rt (rt (lt (lt fnT)))):=⟨Tryz.func27,⟨Tryz.func43,⟨Tryz.func75,⟨Tryz.func139,⟨Tryz.func267,⟨Tryz.func523,trivial,trivial⟩,trivial⟩,⟨Tryz.func395,⟨Tryz.func651,trivial,trivial⟩,trivial⟩⟩,⟨Tryz.func203,⟨Tryz.func331,⟨Tryz.func587,trivial,trivial⟩,trivial⟩,⟨Tryz.func459,trivial,trivial⟩⟩⟩,⟨Tryz.func107,⟨Tryz.func171,⟨Tryz.func299,⟨Tryz.func555,trivial,trivial⟩,trivial⟩,⟨Tryz.func427,trivial,trivial⟩⟩,⟨Tryz.func235,⟨Tryz.func363,⟨Tryz.func619,trivial,trivial⟩,trivial⟩,⟨Tryz.func491,trivial,trivial⟩⟩⟩⟩,⟨Tryz.func59,⟨Tryz.func91,⟨Tryz.func155,⟨Tryz.func283,⟨Tryz.func539,trivial,trivial⟩,trivial⟩,⟨Tryz.func411,⟨Tryz.func667,trivial,trivial⟩,trivial⟩⟩,⟨Tryz.func219,⟨Tryz.func347,⟨Tryz.func603,trivial,trivial⟩,trivial⟩,⟨Tryz.func475,trivial,trivial⟩⟩⟩,⟨Tryz.func123,⟨Tryz.func187,⟨Tryz.func315,⟨Tryz.func571,trivial,trivial⟩,trivial⟩,⟨Tryz.func443,trivial,trivial⟩⟩,⟨Tryz.func251,⟨Tryz.func379,⟨Tryz.func635,trivial,trivial⟩,trivial⟩,⟨Tryz.func507,trivial,trivial⟩⟩⟩⟩⟩
theorem Zbh:Jj W9 (fun k=>(2*(2*(2*(2*k+1)+1)+2)+1)) (lt (lt (rt (lt fnT)))):=⟨Tryz.func17,⟨Tryz.func33,⟨Tryz.func65,⟨Tryz.func129,⟨Tryz.func257,⟨Tryz.func513,trivial,trivial⟩,trivial⟩,⟨Tryz.func385,⟨Tryz.func641,trivial,trivial⟩,trivial⟩⟩,⟨Tryz.func193,⟨Tryz.func321,⟨Tryz.func577,trivial,trivial⟩,trivial⟩,⟨Tryz.func449,trivial,trivial⟩⟩⟩,⟨Tryz.func97,⟨Tryz.func161,⟨Tryz.func289,⟨Tryz.func545,trivial,trivial⟩,trivial⟩,⟨Tryz.func417,⟨Tryz.func673,trivial,trivial⟩,trivial⟩⟩,⟨Tryz.func225,⟨Tryz.func353,⟨Tryz.func609,trivial,trivial⟩,trivial⟩,⟨Tryz.func481,trivial,trivial⟩⟩⟩⟩,⟨Tryz.func49,⟨Tryz.func81,⟨Tryz.func145,⟨Tryz.func273,⟨Tryz.func529,trivial,trivial⟩,trivial⟩,⟨Tryz.func401,⟨Tryz.func657,trivial,trivial⟩,trivial⟩⟩,⟨Tryz.func209,⟨Tryz.func337,⟨Tryz.func593,trivial,trivial⟩,trivial⟩,⟨Tryz.func465,trivial,trivial⟩⟩⟩,⟨Tryz.func113,⟨Tryz.func177,⟨Tryz.func305,⟨Tryz.func561,trivial,trivial⟩,trivial⟩,⟨Tryz.func433,trivial,trivial⟩⟩,⟨Tryz.func241,⟨Tryz.func369,⟨Tryz.func625,trivial,trivial⟩,trivial⟩,⟨Tryz.func497,trivial,trivial⟩⟩⟩⟩⟩
theorem Zbi:Jj W9 (fun k=>(2*(2*(2*(2*k+2)+1)+2)+1)) (rt (lt (rt (lt fnT)))):=⟨Tryz.func25,⟨Tryz.func41,⟨Tryz.func73,⟨Tryz.func137,⟨Tryz.func265,⟨Tryz.func521,trivial,trivial⟩,trivial⟩,⟨Tryz.func393,⟨Tryz.func649,trivial,trivial⟩,trivial⟩⟩,⟨Tryz.func201,⟨Tryz.func329,⟨Tryz.func585,trivial,trivial⟩,trivial⟩,⟨Tryz.func457,trivial,trivial⟩⟩⟩,⟨Tryz.func105,⟨Tryz.func169,⟨Tryz.func297,⟨Tryz.func553,trivial,trivial⟩,trivial⟩,⟨Tryz.func425,trivial,trivial⟩⟩,⟨Tryz.func233,⟨Tryz.func361,⟨Tryz.func617,trivial,trivial⟩,trivial⟩,⟨Tryz.func489,trivial,trivial⟩⟩⟩⟩,⟨Tryz.func57,⟨Tryz.func89,⟨Tryz.func153,⟨Tryz.func281,⟨Tryz.func537,trivial,trivial⟩,trivial⟩,⟨Tryz.func409,⟨Tryz.func665,trivial,trivial⟩,trivial⟩⟩,⟨Tryz.func217,⟨Tryz.func345,⟨Tryz.func601,trivial,trivial⟩,trivial⟩,⟨Tryz.func473,trivial,trivial⟩⟩⟩,⟨Tryz.func121,⟨Tryz.func185,⟨Tryz.func313,⟨Tryz.func569,trivial,trivial⟩,trivial⟩,⟨Tryz.func441,trivial,trivial⟩⟩,⟨Tryz.func249,⟨Tryz.func377,⟨Tryz.func633,trivial,trivial⟩,trivial⟩,⟨Tryz.func505,trivial,trivial⟩⟩⟩⟩⟩
theorem Zbj:Jj W9 (fun k=>(2*(2*(2*(2*k+1)+2)+2)+1)) (lt (rt (rt (lt fnT)))):=⟨Tryz.func21,⟨Tryz.func37,⟨Tryz.func69,⟨Tryz.func133,⟨Tryz.func261,⟨Tryz.func517,trivial,trivial⟩,trivial⟩,⟨Tryz.func389,⟨Tryz.func645,trivial,trivial⟩,trivial⟩⟩,⟨Tryz.func197,⟨Tryz.func325,⟨Tryz.func581,trivial,trivial⟩,trivial⟩,⟨Tryz.func453,trivial,trivial⟩⟩⟩,⟨Tryz.func101,⟨Tryz.func165,⟨Tryz.func293,⟨Tryz.func549,trivial,trivial⟩,trivial⟩,⟨Tryz.func421,trivial,trivial⟩⟩,⟨Tryz.func229,⟨Tryz.func357,⟨Tryz.func613,trivial,trivial⟩,trivial⟩,⟨Tryz.func485,trivial,trivial⟩⟩⟩⟩,⟨Tryz.func53,⟨Tryz.func85,⟨Tryz.func149,⟨Tryz.func277,⟨Tryz.func533,trivial,trivial⟩,trivial⟩,⟨Tryz.func405,⟨Tryz.func661,trivial,trivial⟩,trivial⟩⟩,⟨Tryz.func213,⟨Tryz.func341,⟨Tryz.func597,trivial,trivial⟩,trivial⟩,⟨Tryz.func469,trivial,trivial⟩⟩⟩,⟨Tryz.func117,⟨Tryz.func181,⟨Tryz.func309,⟨Tryz.func565,trivial,trivial⟩,trivial⟩,⟨Tryz.func437,trivial,trivial⟩⟩,⟨Tryz.func245,⟨Tryz.func373,⟨Tryz.func629,trivial,trivial⟩,trivial⟩,⟨Tryz.func501,trivial,trivial⟩⟩⟩⟩⟩
theorem Zbk:Jj W9 (fun k=>(2*(2*(2*(2*k+2)+2)+2)+1)) (rt (rt (rt (lt fnT)))):=⟨Tryz.func29,⟨Tryz.func45,⟨Tryz.func77,⟨Tryz.func141,⟨Tryz.func269,⟨Tryz.func525,trivial,trivial⟩,trivial⟩,⟨Tryz.func397,⟨Tryz.func653,trivial,trivial⟩,trivial⟩⟩,⟨Tryz.func205,⟨Tryz.func333,⟨Tryz.func589,trivial,trivial⟩,trivial⟩,⟨Tryz.func461,trivial,trivial⟩⟩⟩,⟨Tryz.func109,⟨Tryz.func173,⟨Tryz.func301,⟨Tryz.func557,trivial,trivial⟩,trivial⟩,⟨Tryz.func429,trivial,trivial⟩⟩,⟨Tryz.func237,⟨Tryz.func365,⟨Tryz.func621,trivial,trivial⟩,trivial⟩,⟨Tryz.func493,trivial,trivial⟩⟩⟩⟩,⟨Tryz.func61,⟨Tryz.func93,⟨Tryz.func157,⟨Tryz.func285,⟨Tryz.func541,trivial,trivial⟩,trivial⟩,⟨Tryz.func413,⟨Tryz.func669,trivial,trivial⟩,trivial⟩⟩,⟨Tryz.func221,⟨Tryz.func349,⟨Tryz.func605,trivial,trivial⟩,trivial⟩,⟨Tryz.func477,trivial,trivial⟩⟩⟩,⟨Tryz.func125,⟨Tryz.func189,⟨Tryz.func317,⟨Tryz.func573,trivial,trivial⟩,trivial⟩,⟨Tryz.func445,trivial,trivial⟩⟩,⟨Tryz.func253,⟨Tryz.func381,⟨Tryz.func637,trivial,trivial⟩,trivial⟩,⟨Tryz.func509,trivial,trivial⟩⟩⟩⟩⟩
theorem Zbl:Jj W9 (fun k=>(2*(2*(2*(2*k+1)+1)+1)+2)) (lt (lt (lt (rt fnT)))):=⟨Tryz.func16,⟨Tryz.func32,⟨Tryz.func64,⟨Tryz.func128,⟨Tryz.func256,⟨Tryz.func512,trivial,trivial⟩,trivial⟩,⟨Tryz.func384,⟨Tryz.func640,trivial,trivial⟩,trivial⟩⟩,⟨Tryz.func192,⟨Tryz.func320,⟨Tryz.func576,trivial,trivial⟩,trivial⟩,⟨Tryz.func448,trivial,trivial⟩⟩⟩,⟨Tryz.func96,⟨Tryz.func160,⟨Tryz.func288,⟨Tryz.func544,trivial,trivial⟩,trivial⟩,⟨Tryz.func416,⟨Tryz.func672,trivial,trivial⟩,trivial⟩⟩,⟨Tryz.func224,⟨Tryz.func352,⟨Tryz.func608,trivial,trivial⟩,trivial⟩,⟨Tryz.func480,trivial,trivial⟩⟩⟩⟩,⟨Tryz.func48,⟨Tryz.func80,⟨Tryz.func144,⟨Tryz.func272,⟨Tryz.func528,trivial,trivial⟩,trivial⟩,⟨Tryz.func400,⟨Tryz.func656,trivial,trivial⟩,trivial⟩⟩,⟨Tryz.func208,⟨Tryz.func336,⟨Tryz.func592,trivial,trivial⟩,trivial⟩,⟨Tryz.func464,trivial,trivial⟩⟩⟩,⟨Tryz.func112,⟨Tryz.func176,⟨Tryz.func304,⟨Tryz.func560,trivial,trivial⟩,trivial⟩,⟨Tryz.func432,trivial,trivial⟩⟩,⟨Tryz.func240,⟨Tryz.func368,⟨Tryz.func624,trivial,trivial⟩,trivial⟩,⟨Tryz.func496,trivial,trivial⟩⟩⟩⟩⟩
theorem Zbm:Jj W9 (fun k=>(2*(2*(2*(2*k+2)+1)+1)+2)) (rt (lt (lt (rt fnT)))):=⟨Tryz.func24,⟨Tryz.func40,⟨Tryz.func72,⟨Tryz.func136,⟨Tryz.func264,⟨Tryz.func520,trivial,trivial⟩,trivial⟩,⟨Tryz.func392,⟨Tryz.func648,trivial,trivial⟩,trivial⟩⟩,⟨Tryz.func200,⟨Tryz.func328,⟨Tryz.func584,trivial,trivial⟩,trivial⟩,⟨Tryz.func456,trivial,trivial⟩⟩⟩,⟨Tryz.func104,⟨Tryz.func168,⟨Tryz.func296,⟨Tryz.func552,trivial,trivial⟩,trivial⟩,⟨Tryz.func424,trivial,trivial⟩⟩,⟨Tryz.func232,⟨Tryz.func360,⟨Tryz.func616,trivial,trivial⟩,trivial⟩,⟨Tryz.func488,trivial,trivial⟩⟩⟩⟩,⟨Tryz.func56,⟨Tryz.func88,⟨Tryz.func152,⟨Tryz.func280,⟨Tryz.func536,trivial,trivial⟩,trivial⟩,⟨Tryz.func408,⟨Tryz.func664,trivial,trivial⟩,trivial⟩⟩,⟨Tryz.func216,⟨Tryz.func344,⟨Tryz.func600,trivial,trivial⟩,trivial⟩,⟨Tryz.func472,trivial,trivial⟩⟩⟩,⟨Tryz.func120,⟨Tryz.func184,⟨Tryz.func312,⟨Tryz.func568,trivial,trivial⟩,trivial⟩,⟨Tryz.func440,trivial,trivial⟩⟩,⟨Tryz.func248,⟨Tryz.func376,⟨Tryz.func632,trivial,trivial⟩,trivial⟩,⟨Tryz.func504,trivial,trivial⟩⟩⟩⟩⟩
theorem UE:Jj W9 (fun k=>(2*(2*(2*(2*k+1)+2)+1)+2)) (lt (rt (lt (rt fnT)))):=⟨Tryz.func20,⟨Tryz.func36,⟨Tryz.func68,⟨Tryz.func132,⟨Tryz.func260,⟨Tryz.func516,trivial,trivial⟩,trivial⟩,⟨Tryz.func388,⟨Tryz.func644,trivial,trivial⟩,trivial⟩⟩,⟨Tryz.func196,⟨Tryz.func324,⟨Tryz.func580,trivial,trivial⟩,trivial⟩,⟨Tryz.func452,trivial,trivial⟩⟩⟩,⟨Tryz.func100,⟨Tryz.func164,⟨Tryz.func292,⟨Tryz.func548,trivial,trivial⟩,trivial⟩,⟨Tryz.func420,⟨Tryz.func676,trivial,trivial⟩,trivial⟩⟩,⟨Tryz.func228,⟨Tryz.func356,⟨Tryz.func612,trivial,trivial⟩,trivial⟩,⟨Tryz.func484,trivial,trivial⟩⟩⟩⟩,⟨Tryz.func52,⟨Tryz.func84,⟨Tryz.func148,⟨Tryz.func276,⟨Tryz.func532,trivial,trivial⟩,trivial⟩,⟨Tryz.func404,⟨Tryz.func660,trivial,trivial⟩,trivial⟩⟩,⟨Tryz.func212,⟨Tryz.func340,⟨Tryz.func596,trivial,trivial⟩,trivial⟩,⟨Tryz.func468,trivial,trivial⟩⟩⟩,⟨Tryz.func116,⟨Tryz.func180,⟨Tryz.func308,⟨Tryz.func564,trivial,trivial⟩,trivial⟩,⟨Tryz.func436,trivial,trivial⟩⟩,⟨Tryz.func244,⟨Tryz.func372,⟨Tryz.func628,trivial,trivial⟩,trivial⟩,⟨Tryz.func500,trivial,trivial⟩⟩⟩⟩⟩
theorem UF:Jj W9 (fun k=>(2*(2*(2*(2*k+2)+2)+1)+2)) (rt (rt (lt (rt fnT)))):=⟨Tryz.func28,⟨Tryz.func44,⟨Tryz.func76,⟨Tryz.func140,⟨Tryz.func268,⟨Tryz.func524,trivial,trivial⟩,trivial⟩,⟨Tryz.func396,⟨Tryz.func652,trivial,trivial⟩,trivial⟩⟩,⟨Tryz.func204,⟨Tryz.func332,⟨Tryz.func588,trivial,trivial⟩,trivial⟩,⟨Tryz.func460,trivial,trivial⟩⟩⟩,⟨Tryz.func108,⟨Tryz.func172,⟨Tryz.func300,⟨Tryz.func556,trivial,trivial⟩,trivial⟩,⟨Tryz.func428,trivial,trivial⟩⟩,⟨Tryz.func236,⟨Tryz.func364,⟨Tryz.func620,trivial,trivial⟩,trivial⟩,⟨Tryz.func492,trivial,trivial⟩⟩⟩⟩,⟨Tryz.func60,⟨Tryz.func92,⟨Tryz.func156,⟨Tryz.func284,⟨Tryz.func540,trivial,trivial⟩,trivial⟩,⟨Tryz.func412,⟨Tryz.func668,trivial,trivial⟩,trivial⟩⟩,⟨Tryz.func220,⟨Tryz.func348,⟨Tryz.func604,trivial,trivial⟩,trivial⟩,⟨Tryz.func476,trivial,trivial⟩⟩⟩,⟨Tryz.func124,⟨Tryz.func188,⟨Tryz.func316,⟨Tryz.func572,trivial,trivial⟩,trivial⟩,⟨Tryz.func444,trivial,trivial⟩⟩,⟨Tryz.func252,⟨Tryz.func380,⟨Tryz.func636,trivial,trivial⟩,trivial⟩,⟨Tryz.func508,trivial,trivial⟩⟩⟩⟩⟩
theorem UG:Jj W9 (fun k=>(2*(2*(2*(2*k+1)+1)+2)+2)) (lt (lt (rt (rt fnT)))):=⟨Tryz.func18,⟨Tryz.func34,⟨Tryz.func66,⟨Tryz.func130,⟨Tryz.func258,⟨Tryz.func514,trivial,trivial⟩,trivial⟩,⟨Tryz.func386,⟨Tryz.func642,trivial,trivial⟩,trivial⟩⟩,⟨Tryz.func194,⟨Tryz.func322,⟨Tryz.func578,trivial,trivial⟩,trivial⟩,⟨Tryz.func450,trivial,trivial⟩⟩⟩,⟨Tryz.func98,⟨Tryz.func162,⟨Tryz.func290,⟨Tryz.func546,trivial,trivial⟩,trivial⟩,⟨Tryz.func418,⟨Tryz.func674,trivial,trivial⟩,trivial⟩⟩,⟨Tryz.func226,⟨Tryz.func354,⟨Tryz.func610,trivial,trivial⟩,trivial⟩,⟨Tryz.func482,trivial,trivial⟩⟩⟩⟩,⟨Tryz.func50,⟨Tryz.func82,⟨Tryz.func146,⟨Tryz.func274,⟨Tryz.func530,trivial,trivial⟩,trivial⟩,⟨Tryz.func402,⟨Tryz.func658,trivial,trivial⟩,trivial⟩⟩,⟨Tryz.func210,⟨Tryz.func338,⟨Tryz.func594,trivial,trivial⟩,trivial⟩,⟨Tryz.func466,trivial,trivial⟩⟩⟩,⟨Tryz.func114,⟨Tryz.func178,⟨Tryz.func306,⟨Tryz.func562,trivial,trivial⟩,trivial⟩,⟨Tryz.func434,trivial,trivial⟩⟩,⟨Tryz.func242,⟨Tryz.func370,⟨Tryz.func626,trivial,trivial⟩,trivial⟩,⟨Tryz.func498,trivial,trivial⟩⟩⟩⟩⟩
theorem UH:Jj W9 (fun k=>(2*(2*(2*(2*k+2)+1)+2)+2)) (rt (lt (rt (rt fnT)))):=⟨Tryz.func26,⟨Tryz.func42,⟨Tryz.func74,⟨Tryz.func138,⟨Tryz.func266,⟨Tryz.func522,trivial,trivial⟩,trivial⟩,⟨Tryz.func394,⟨Tryz.func650,trivial,trivial⟩,trivial⟩⟩,⟨Tryz.func202,⟨Tryz.func330,⟨Tryz.func586,trivial,trivial⟩,trivial⟩,⟨Tryz.func458,trivial,trivial⟩⟩⟩,⟨Tryz.func106,⟨Tryz.func170,⟨Tryz.func298,⟨Tryz.func554,trivial,trivial⟩,trivial⟩,⟨Tryz.func426,trivial,trivial⟩⟩,⟨Tryz.func234,⟨Tryz.func362,⟨Tryz.func618,trivial,trivial⟩,trivial⟩,⟨Tryz.func490,trivial,trivial⟩⟩⟩⟩,⟨Tryz.func58,⟨Tryz.func90,⟨Tryz.func154,⟨Tryz.func282,⟨Tryz.func538,trivial,trivial⟩,trivial⟩,⟨Tryz.func410,⟨Tryz.func666,trivial,trivial⟩,trivial⟩⟩,⟨Tryz.func218,⟨Tryz.func346,⟨Tryz.func602,trivial,trivial⟩,trivial⟩,⟨Tryz.func474,trivial,trivial⟩⟩⟩,⟨Tryz.func122,⟨Tryz.func186,⟨Tryz.func314,⟨Tryz.func570,trivial,trivial⟩,trivial⟩,⟨Tryz.func442,trivial,trivial⟩⟩,⟨Tryz.func250,⟨Tryz.func378,⟨Tryz.func634,trivial,trivial⟩,trivial⟩,⟨Tryz.func506,trivial,trivial⟩⟩⟩⟩⟩
theorem UI:Jj W9 (fun k=>(2*(2*(2*(2*k+1)+2)+2)+2)) (lt (rt (rt (rt fnT)))):=⟨Tryz.func22,⟨Tryz.func38,⟨Tryz.func70,⟨Tryz.func134,⟨Tryz.func262,⟨Tryz.func518,trivial,trivial⟩,trivial⟩,⟨Tryz.func390,⟨Tryz.func646,trivial,trivial⟩,trivial⟩⟩,⟨Tryz.func198,⟨Tryz.func326,⟨Tryz.func582,trivial,trivial⟩,trivial⟩,⟨Tryz.func454,trivial,trivial⟩⟩⟩,⟨Tryz.func102,⟨Tryz.func166,⟨Tryz.func294,⟨Tryz.func550,trivial,trivial⟩,trivial⟩,⟨Tryz.func422,trivial,trivial⟩⟩,⟨Tryz.func230,⟨Tryz.func358,⟨Tryz.func614,trivial,trivial⟩,trivial⟩,⟨Tryz.func486,trivial,trivial⟩⟩⟩⟩,⟨Tryz.func54,⟨Tryz.func86,⟨Tryz.func150,⟨Tryz.func278,⟨Tryz.func534,trivial,trivial⟩,trivial⟩,⟨Tryz.func406,⟨Tryz.func662,trivial,trivial⟩,trivial⟩⟩,⟨Tryz.func214,⟨Tryz.func342,⟨Tryz.func598,trivial,trivial⟩,trivial⟩,⟨Tryz.func470,trivial,trivial⟩⟩⟩,⟨Tryz.func118,⟨Tryz.func182,⟨Tryz.func310,⟨Tryz.func566,trivial,trivial⟩,trivial⟩,⟨Tryz.func438,trivial,trivial⟩⟩,⟨Tryz.func246,⟨Tryz.func374,⟨Tryz.func630,trivial,trivial⟩,trivial⟩,⟨Tryz.func502,trivial,trivial⟩⟩⟩⟩⟩
theorem UJ:Jj W9 (fun k=>(2*(2*(2*(2*k+2)+2)+2)+2)) (rt (rt (rt (rt fnT)))):=⟨Tryz.func30,⟨Tryz.func46,⟨Tryz.func78,⟨Tryz.func142,⟨Tryz.func270,⟨Tryz.func526,trivial,trivial⟩,trivial⟩,⟨Tryz.func398,⟨Tryz.func654,trivial,trivial⟩,trivial⟩⟩,⟨Tryz.func206,⟨Tryz.func334,⟨Tryz.func590,trivial,trivial⟩,trivial⟩,⟨Tryz.func462,trivial,trivial⟩⟩⟩,⟨Tryz.func110,⟨Tryz.func174,⟨Tryz.func302,⟨Tryz.func558,trivial,trivial⟩,trivial⟩,⟨Tryz.func430,trivial,trivial⟩⟩,⟨Tryz.func238,⟨Tryz.func366,⟨Tryz.func622,trivial,trivial⟩,trivial⟩,⟨Tryz.func494,trivial,trivial⟩⟩⟩⟩,⟨Tryz.func62,⟨Tryz.func94,⟨Tryz.func158,⟨Tryz.func286,⟨Tryz.func542,trivial,trivial⟩,trivial⟩,⟨Tryz.func414,⟨Tryz.func670,trivial,trivial⟩,trivial⟩⟩,⟨Tryz.func222,⟨Tryz.func350,⟨Tryz.func606,trivial,trivial⟩,trivial⟩,⟨Tryz.func478,trivial,trivial⟩⟩⟩,⟨Tryz.func126,⟨Tryz.func190,⟨Tryz.func318,⟨Tryz.func574,trivial,trivial⟩,trivial⟩,⟨Tryz.func446,trivial,trivial⟩⟩,⟨Tryz.func254,⟨Tryz.func382,⟨Tryz.func638,trivial,trivial⟩,trivial⟩,⟨Tryz.func510,trivial,trivial⟩⟩⟩⟩⟩
theorem Zdk:Jj W9 (fun k=>k) fnT:=⟨Tryz.func0,⟨Tryz.func1,⟨Tryz.func3,⟨Tryz.func7,Zbd,Zbe⟩,⟨Tryz.func11,Zbf,Zbg⟩⟩,⟨Tryz.func5,⟨Tryz.func9,Zbh,Zbi⟩,⟨Tryz.func13,Zbj,Zbk⟩⟩⟩,⟨Tryz.func2,⟨Tryz.func4,⟨Tryz.func8,Zbl,Zbm⟩,⟨Tryz.func12,UE,UF⟩⟩,⟨Tryz.func6,⟨Tryz.func10,UG,UH⟩,⟨Tryz.func14,UI,UJ⟩⟩⟩⟩
theorem ZfD (f:FuncId) (fn:Func) (h:fnT.get f=some fn):Tryz.prog.funcs[f]? = some fn∧(fn.name== "runtime.NumGoroutine")=false :=
 ⟨UC Zdk h,Wd (bits f) fnT fn UD h⟩
end Go.Proofs.YtheflbaejhlboaaGreatDoor.Ev
namespace Go.Proofs.YtheflbaejhlboaaGreatDoor.Ev
open Go
variable [Sig] {P:Program}
theorem PY {f:FuncId} {fn:Func} (hf:P.funcs[f]? = some fn) (hname:(fn.name== "runtime.NumGoroutine")=false) (hb:fn.body.isNone=true) (hn:Extern.findNext fn=none):Z4 P f (W7 P fn):=by
 intro args s v s' h r w us hr hv
 have h:Za6 P s (Extern.find fn) (toVs args) = .ok v s':=h
 unfold Za6 at h
 split at h
 ·rename_i e vs he hvs
  obtain ⟨h1,rfl⟩:=ZY h
  have hus:=toVs_ok r args vs us hvs hv
  subst hus
  obtain ⟨u,h2,h3⟩:=YM (P:=P) (w:=w) (r:=r) h1
  refine .inl ⟨u,w,?_,r,Ext.refl hr,h3⟩
  rw [run_callFunc_extern hf hname hb hn he,show (⟨us⟩:Array Value)=us.toArray from rfl,h2]
  rfl
 ·cases h
theorem UK {w:World} {r:Nat} {es:Array MapEntry} {clock:Nat} (t:TypeId) (hb:w.heap[r]? = some (.map es clock)) :
  (Extern.MapsClone.clone #[.iface t (.map (some r))]).run P w = .ok (.iface t (.map (some w.heap.size))) (w.alloc (.map es clock)):=by
 have e:Extern.MapsClone.clone #[.iface t (.map (some r))]=(getObj r >>= fun o=>match o with
   | .map entries clock=>(newObj (.map entries clock) >>= fun n=>pure (.iface t (.map (some n))))
   | _=>stuck "maps.clone: a map expected"):=rfl
 rw [e]
 simp [MapKept.run_getObj_map hb,Result.andThen,go_sem]
theorem Fj {f:FuncId} {fn:Func} (hf:P.funcs[f]? = some fn) (hname:(fn.name== "runtime.NumGoroutine")=false) (hb:fn.body.isNone=true) (hn:Extern.findNext fn=none) (he:Extern.find fn=some Extern.MapsClone.clone):Z4 P f Hc:=by
 intro args s v s' h r w us hr hv
 have h:DZ args s=R.ok v s':=h
 unfold DZ at h
 split at h
 ·rename_i t m
  cases hv with
  | cons hv ht =>
   cases ht
   cases hv with
   | iface _ hv =>
    cases hv with
    | map hm =>
     rename_i x
     unfold Fc at h
     split at h
     ·rename_i es c hma
      cases h
      obtain ⟨o,h1,h2⟩:=hr.block _ _ _ (JO hma) hm
      obtain ⟨l,rfl,h3⟩:=h2
      refine .inl ⟨_,w.alloc (.map ⟨l⟩ c),?_,r.at s.next (RB.of w.heap.size (0) (0)),Ext.new hr rfl (o := .map ⟨l⟩ c) (by show (w.alloc (.map ⟨l⟩ c)).heap[w.heap.size]? = _; unfold World.alloc; exact Array.getElem?_push_size) ⟨l,rfl,h3.mono (r.JL _ (hr.Z7 (Nat.le_refl _)))⟩ (fun k hk => ?_) (by simp) rfl rfl rfl,.iface _ (.map (Rho.Zo _ _ _))⟩
      ·rw [run_callFunc_extern hf hname hb hn he]
       exact congrArg (fun x=>x.andThen fun v w'=>Result.ok (Next.value v) w') (UK _ h1)
      ·exact Go.RowKit.Below.heap_alloc w _ k hk
     ·cases h
 ·cases h
end Go.Proofs.YtheflbaejhlboaaGreatDoor.Ev
namespace Go.Proofs.YtheflbaejhlboaaGreatDoor.Ev
open Go
variable [Sig] {P:Program}
noncomputable def PZ:Array Value→Sem Value:=fun args=>do
 let (x,y,b) ← Extern.MathBitsCarry.three "Sub64" args
 pure (Extern.MathBitsCarry.pair ((x+Extern.MathBitsCarry.m64-y-b)%Extern.MathBitsCarry.m64) (if x<y+b then 1 else 0))
theorem Zdl (x y b:Nat) (hb:b≤1) (w:World) :
  (PZ #[.int .u64 x,.int .u64 y,.int .u64 b]).run P w =
   .ok (.tuple #[.int .u64 (((x+18446744073709551616-y-b)%18446744073709551616:Nat):Int),.int .u64 ((if x<y+b then 1 else 0:Nat):Int)]) w:=by
 have:b=0∨b=1:=by omega
 rcases this with rfl | rfl <;> rfl
theorem XU {c a b:Int} (h:inU c a b=true):0≤c+a*Sig.x+b*Sig.y∧c+a*Sig.x+b*Sig.y≤18446744073709551615:=by
 have h1:=YN c a b
 have h2:=YO c a b
 obtain ⟨h3,h4⟩:=Qw h
 rw [JP,decide_eq_true_iff] at h3 h4
 have h3:(0:Int)≤Ku c a b:=h3
 have h4:RR c a b≤18446744073709551615:=h4
 exact ⟨by omega,by omega⟩
theorem Hd {k:IntKind} {c a b d e f:Int} {v w:Zc} {x:V} (h:D1 k c a b d e f x = .ok v):k = .u64∧inU c a b=true∧inU d e f=true∧x = .ok v:=by
 unfold D1 at h
 rcases Ze h with ⟨h1,h⟩ | ⟨_,h⟩
 ·rcases Ze h with ⟨h2,h⟩ | ⟨_,h⟩
  ·rcases Ze h with ⟨h3,h⟩ | ⟨_,h⟩
   ·exact ⟨Jd h1,h2,h3,h⟩
   ·cases h
  ·cases h
 ·cases h
theorem Th {r:Rho} {c a b:Int} {h:Nat} {v:Zc} (e:Fe c a b h = .ok v) {n m:Int} (hn:n=c+a*Sig.x+b*Sig.y) (hm:m=h):VR r v (.tuple #[.int .u64 n,.int .u64 m]):=by
 cases e
 subst hm
 exact .tuple (.cons (Ds .u64 hn) (.cons (.int _ _) .nil))
theorem Zdm {r:Rho} {c a b:Int} {v:Zc} (h:Zdh c a b = .ok v) {n:Int} (hn:n=c+a*Sig.x+b*Sig.y):VR r v (.tuple #[.int .u64 (n%18446744073709551616),.int .u64 (n / 18446744073709551616)]):=by
 unfold Zdh at h
 rcases Ze h with ⟨h1,h⟩ | ⟨_,h⟩
 ·obtain ⟨h2,h3⟩:=XU h1
  exact Th h (by omega) (by omega)
 ·rcases Ze h with ⟨h1,h⟩ | ⟨_,h⟩
  ·obtain ⟨h2,h3⟩:=XU h1
   have e:(Int.ofNat 18446744073709551616)=(18446744073709551616:Int):=rfl
   rw [e] at h h2 h3
   exact Th h (by omega) (by omega)
  ·cases h
theorem Zdn {r:Rho} {c a b:Int} {v:Zc} (h:Zdi c a b = .ok v) {n:Int} (hn:n=c+a*Sig.x+b*Sig.y) (hlo : -18446744073709551616≤n) (hhi:n≤18446744073709551615) :
  VR r v (.tuple #[.int .u64 ((n+18446744073709551616)%18446744073709551616),.int .u64 (if n<0 then 1 else 0)]):=by
 unfold Zdi at h
 rcases Ze h with ⟨h1,h⟩ | ⟨_,h⟩
 ·obtain ⟨h2,h3⟩:=XU h1
  exact Th h (by omega) (by rw [if_neg (by omega)]; rfl)
 ·rcases Ze h with ⟨h1,h⟩ | ⟨_,h⟩
  ·obtain ⟨h2,h3⟩:=XU h1
   have e:(Int.ofNat 18446744073709551616)=(18446744073709551616:Int):=rfl
   rw [e] at h h2 h3
   by_cases hneg:n<0
   ·exact Th h (by omega) (by rw [if_pos hneg]; rfl)
   ·omega
  ·cases h
theorem Zdo {p:Sy} (h:Zhv p=true):∃ k c a b d e f,p = .mk k c a b d e f:=by
 cases p with
 | none=>cases h
 | mk k c a b d e f=>exact ⟨k,c,a,b,d,e,f,rfl⟩
theorem RE {f:FuncId} {fn:Func} (sub:Bool) (hf:P.funcs[f]? = some fn) (hname:(fn.name== "runtime.NumGoroutine")=false) (hb:fn.body.isNone=true) (hn:Extern.findNext fn=none)
  (he:Extern.find fn=some (if sub then PZ else add64Entry)):Z4 P f (W8 sub (W7 P fn)):=by
 intro args s v s' h r w us hr hv
 unfold W8 at h
 simp only at h
 have hpure:=PY hf hname hb hn
 split at h
 ·rename_i x y z
  rcases Ze h with ⟨h1,h⟩ | ⟨_,h⟩
  ·obtain ⟨h2,rfl⟩:=ZY h
   obtain ⟨k,c,a,b,d,e,g,hp⟩:=Zdo h1
   rw [hp] at h2
   cases hv with
   | cons hx ht=>cases ht with
    | cons hy ht=>cases ht with
     | cons hz ht =>
      cases ht
      cases hz
      obtain ⟨rfl,rfl⟩:=KW hp hx hy
      cases sub
      ·have h2:sel (Nat.ble z 1) (D1 k c a b d e g (Zdh (c+d + .ofNat z) (a+e) (b+g))) .bad = .ok v:=h2
       rcases Ze h2 with ⟨h3,h2⟩ | ⟨_,h2⟩
       ·obtain ⟨rfl,h4,h5,h6⟩:=Hd (w:=v) h2
        obtain ⟨h7,h8⟩:=XU h4
        obtain ⟨h9,h10⟩:=XU h5
        have hz:=Z6 h3
        refine .inl ⟨_,w,?_,r,Ext.refl hr,Zdm h6 (n:=(c+a*Sig.x+b*Sig.y)+(d+e*Sig.x+g*Sig.y)+z) (by rw [Int.add_mul,Int.add_mul]; show _=c+d+(z:Int)+_+_; omega)⟩
        rw [run_callFunc_extern hf hname hb hn he]
        show ((add64Entry #[_,_,_]).run P w).andThen _=_
        rw [show (Int.ofNat z)=(z:Int) from rfl,run_add64 _ _ _ h7 h9 (by omega) (by omega)]
        rfl
       ·cases h2
      ·have h2:sel (Nat.ble z 1) (D1 k c a b d e g (Zdi (c-d - .ofNat z) (a-e) (b-g))) .bad = .ok v:=h2
       rcases Ze h2 with ⟨h3,h2⟩ | ⟨_,h2⟩
       ·obtain ⟨rfl,h4,h5,h6⟩:=Hd (w:=v) h2
        obtain ⟨h7,h8⟩:=XU h4
        obtain ⟨h9,h10⟩:=XU h5
        have hz:=Z6 h3
        have hE:(c+a*Sig.x+b*Sig.y)-(d+e*Sig.x+g*Sig.y)-z=c-d-(z:Int)+(a-e)*Sig.x+(b-g)*Sig.y:=by rw [Int.sub_mul,Int.sub_mul]; omega
        have hres:=Zdn (r:=r) h6 (n:=(c+a*Sig.x+b*Sig.y)-(d+e*Sig.x+g*Sig.y)-z) hE (by omega) (by omega)
        generalize c+a*Sig.x+b*Sig.y=X at h7 h8 hres
        generalize d+e*Sig.x+g*Sig.y=Y at h9 h10 hres
        obtain ⟨X,rfl⟩:=Int.eq_ofNat_of_zero_le h7
        obtain ⟨Y,rfl⟩:=Int.eq_ofNat_of_zero_le h9
        refine .inl ⟨_,w,?_,r,Ext.refl hr,hres⟩
        rw [run_callFunc_extern hf hname hb hn he]
        show ((PZ #[_,_,_]).run P w).andThen _=_
        rw [show (Int.ofNat z)=(z:Int) from rfl,Zdl _ _ _ hz]
        have e1:(((X+18446744073709551616-Y-z)%18446744073709551616:Nat):Int)=((X:Int)-Y-z+18446744073709551616)%18446744073709551616:=by omega
        have e2:((if X<Y+z then 1 else 0:Nat):Int)=(if (X:Int)-Y-z<0 then 1 else 0):=by
         by_cases hlt:X<Y+z
         ·rw [if_pos hlt,if_pos (by omega)]; rfl
         ·rw [if_neg hlt,if_neg (by omega)]; rfl
        rw [e1,e2]
        rfl
       ·cases h2
  ·exact hpure _ s v s' h r w us hr hv
 ·exact hpure _ s v s' h r w us hr hv
theorem Fk {r:Rho} {c a b:Int} {v:Zc} (h:Bp c a b = .ok v) {n:Int} (hn:n=c+a*Sig.x+b*Sig.y):VR r v (.tuple #[.int .u64 (n / 18446744073709551616),.int .u64 (n%18446744073709551616)]):=by
 unfold Bp at h
 rcases Ze h with ⟨h1,h⟩ | ⟨_,h⟩
 ·cases h
  obtain ⟨h2,h3⟩:=XU h1
  have e1:n / 18446744073709551616=Int.ofNat 0:=by show _=(0:Int); omega
  have e2:n%18446744073709551616=n:=by omega
  rw [e1,e2]
  exact .tuple (.cons (.int _ _) (.cons (Ds .u64 hn) .nil))
 ·cases h
theorem Zdp {r:Rho} {c a b d e f:Int} {v:Zc} (h:ZfB c a b d e f = .ok v) {n:Int} (hn:n=(c+a*Sig.x+b*Sig.y)*(d+e*Sig.x+f*Sig.y)) :
  VR r v (.tuple #[.int .u64 (n / 18446744073709551616),.int .u64 (n%18446744073709551616)]):=by
 unfold ZfB at h
 rcases Ze h with ⟨h1,h2⟩ | ⟨_,h2⟩
 ·obtain ⟨h6,h7⟩:=Qw h1
  rw [QC] at h6 h7
  have h6:a=0:=eq_of_beq h6
  have h7:b=0:=eq_of_beq h7
  subst h6 h7
  refine Fk h2 ?_
  rw [hn,Int.zero_mul,Int.zero_mul,Int.add_zero,Int.add_zero,Int.mul_add,Int.mul_add,Int.mul_assoc,Int.mul_assoc]
 ·rcases Ze h2 with ⟨h1,h2⟩ | ⟨_,h2⟩
  ·obtain ⟨h6,h7⟩:=Qw h1
   rw [QC] at h6 h7
   have h6:e=0:=eq_of_beq h6
   have h7:f=0:=eq_of_beq h7
   subst h6 h7
   refine Fk h2 ?_
   rw [hn,Int.zero_mul,Int.zero_mul,Int.add_zero,Int.add_zero,Int.mul_comm _ d,Int.mul_add,Int.mul_add,Int.mul_assoc,Int.mul_assoc]
  ·cases h2
theorem mul_right {f:FuncId} {fn:Func} {b:Code} (hf:P.funcs[f]? = some fn) (hname:(fn.name== "runtime.NumGoroutine")=false) (hb:fn.body=some b)
  (hc:∀ (x y:Nat),x<18446744073709551616→y<18446744073709551616→∀ w,Calls P f #[.int .u64 x,.int .u64 y] w fun e w'=>e = .returned (.tuple #[.int .u64 ((x*y / 18446744073709551616:Nat):Int),.int .u64 ((x*y%18446744073709551616:Nat):Int)])∧w'=w):Z4 P f Zdj:=by
 intro args s v s' h r w us hr hv
 have hcf:∀ args w,(callFunc f args).run P w = .ok (.enter f args) w:=fun args w=>by
  have hname':fn.name≠ "runtime.NumGoroutine":=by simpa using hname
  simp [callFunc,hf,hname',hb]
 have h:mulR args s = .ok v s':=h
 unfold mulR at h
 split at h
 ·rename_i x y
  obtain ⟨h1,rfl⟩:=ZY h
  cases hv with
  | cons hx ht=>cases ht with
   | cons hy ht =>
    cases ht
    unfold Zhx at h1
    split at h1
    ·rename_i a b'
     cases hx
     cases hy
     unfold mulN at h1
     rcases Ze h1 with ⟨h2,h1⟩ | ⟨_,h1⟩
     ·rcases Ze h1 with ⟨h3,h1⟩ | ⟨_,h1⟩
      ·cases h1
       refine .inr ⟨hcf _ _,(hc a b' (Qy h2) (Qy h3) w).mono fun e w' ⟨he,hw⟩=>⟨_,he,r,by subst hw; exact Ext.refl hr,.tuple (.cons (.int _ _) (.cons (.int _ _) .nil))⟩⟩
      ·cases h1
     ·cases h1
    ·unfold Zhw at h1
     split at h1
     ·rename_i k c a b' d e g hp
      obtain ⟨rfl,h4,h5,h6⟩:=Hd (w:=v) h1
      obtain ⟨rfl,rfl⟩:=KW hp hx hy
      obtain ⟨h7,h8⟩:=XU h4
      obtain ⟨h9,h10⟩:=XU h5
      have hres:=Zdp (r:=r) h6 rfl
      generalize c+a*Sig.x+b'*Sig.y=X at h7 h8 hres
      generalize d+e*Sig.x+g*Sig.y=Y at h9 h10 hres
      obtain ⟨X,rfl⟩:=Int.eq_ofNat_of_zero_le h7
      obtain ⟨Y,rfl⟩:=Int.eq_ofNat_of_zero_le h9
      refine .inr ⟨hcf _ _,(hc X Y (by omega) (by omega) w).mono fun e w' ⟨he,hw⟩=>⟨_,he,r,by subst hw; exact Ext.refl hr,?_⟩⟩
      rw [Int.natCast_ediv,Int.natCast_emod,Int.natCast_mul]
      exact hres
     ·cases h1
 ·cases h
end Go.Proofs.YtheflbaejhlboaaGreatDoor.Ev
namespace Go.Proofs.YtheflbaejhlboaaGreatDoor.Ev
open Go
variable [Sig] {P:Program}
theorem VC {K:ZF} {r:Rho} {s s':St} {w:World} {e:Env} {a:Act} (hr:Rel r s w) (he:Qk K r e a) {ops:Array Oper} {j:Nat} {o:Oper} (ho:ops[j]? = some o) (hg:o.guard=none) (hd:Qr K o=true) {v:Zc}
  (hrun:(comp (Q7 0 .nil) P (fun _ _ _ => .bad) o.op).run [] e s = .ok v s') {Q:Exit→Act→World→Prop} {Kn:Act→World→Prop}
  (hK:∀ q a' w',Ext r s w q s' w'→Qk K q (Kl e v (JT K o)) a'→Kn a' w'):wpOp P ops Q j Kn a w:=by
 have hbadc:ZZ P (fun _ _ _=>R.bad):=fun f args s v s' h=>by cases h
 unfold wpOp
 rw [ho]
 simp only
 have hw:Region.wanted o (yielded ops a.tmps)=true:=by unfold Region.wanted; rw [hg]
 rw [hw,if_pos rfl]
 refine .inl ((Rt hbadc hrun).ok hr ((Inv.start hr he).cx o.op) _ _ fun q u w' hx hvr => ?_)
 exact hK q _ w' hx (he.put hx.le hd hvr)
theorem run_load {P:Program} {ty:TypeId} (hw:Jr P ty = .mk 0 1 false) {u:Tmp} {e:Env} {s:St} {n:Nat} {c:Zc} (he:e.get u=some (.ptr n 0)) (hs:s.get n=some (.cells [c] 0 false)) :
  (comp (Q7 0 .nil) P (fun _ _ _ => .bad) (.load ty (.tmp u))).run [] e s = .ok c s:=by
 show V.then (fun v=>V.ret s (MN s (Jr P ty) v)) (Zn [] e (.tmp (bits u)))=_
 have h1:Zn [] e (.tmp (bits u)) = .ok (.ptr n 0):=by
  show V.ofO (e.get u)=_
  rw [he]; rfl
 rw [h1,hw]
 show V.ret s (Ew (.mk 0 1 false) 0 (Db (s.get n)))=_
 rw [hs]
 rfl
theorem run_store {P:Program} {ty:TypeId} (hw:Jr P ty = .mk 0 1 false) {u:Tmp} {e:Env} {s:St} {n:Nat} {c:Zc} {b:Bool} (he:e.get u=some (.ptr n 0)) (hs:s.get n=some (.cells [c] 0 false)) :
  (comp (Q7 0 .nil) P (fun _ _ _ => .bad) (.store ty (.tmp u) (.const (.bool b)))).run [] e s = .ok Qu (s.put n (.cells [.bool b] 0 false)):=by
 show V.then (fun v=>V.then (Ty s (Jr P ty) v) (Zn [] e (.tmp (bits u)))) (Zn [] e (.val (.bool b)))=_
 have h1:Zn [] e (.tmp (bits u)) = .ok (.ptr n 0):=by
  show V.ofO (e.get u)=_
  rw [he]; rfl
 rw [h1,hw]
 show Tx s (.mk 0 1 false) (.bool b) n 0 (Db (s.get n))=_
 rw [hs]
 rfl
theorem D4 (hm:P.follows .mixedOrders=true) {K:ZF} {id:Nat} {ops:Array Oper} {t u ty:Nat} {o0 o1 o2 o3:Oper} (h0:ops[0]? = some o0) (h1:ops[1]? = some o1) (h2:ops[2]? = some o2) (h3:ops[3]? = some o3) (hsz:ops.size=4)
  (d0:o0.dst=some u) (d1:o1.dst=none) (d2:o2.dst=none) (d3:o3.dst=some t) (p0:o0.op = .alloc ty) (p1:o1.op = .store ty (.tmp u) (.const (.bool true))) (p2:o2.op = .store ty (.tmp u) (.const (.bool false)))
  (p3:o3.op = .load ty (.tmp u)) (g0:o0.guard=none) (g1:o1.guard=none) (g2:o2.guard=none) (g3:o3.guard=none)
  (r0:Region.ready .any ops #[false,false,false,false]=[0]) (r1:Region.ready .any ops #[true,false,false,false]=[1,2]) (r2:Region.ready .any ops #[true,true,false,false]=[2]) (r3:Region.ready .any ops #[true,false,true,false]=[1])
  (r4:Region.ready .any ops #[true,true,true,false]=[3]) (r5:Region.ready .any ops #[true,true,true,true]=[]) (hz:XZ P ty=some (.bool false)) (hw:Jr P ty = .mk 0 1 false) (htu:t≠u) (hkt:K.Zi t=true) (htn:t<K.n) (hun:u<K.n) :
  Zv P K (.region id ops true) (Rv t u):=by
 intro e s _ r w a Q hr he hQ
 have hn0:s.get s.next=none:=hr.far _ (Nat.le_refl _)
 refine wp_region_any hm ?_
 rw [hsz]
 have he':Qk ⟨K.n,fun _=>true⟩ r e a:=⟨fun t v h=>⟨rfl,(he.env t v h).2⟩,he.size,he.defers⟩
 have hr':Rel r s { w with drawn:=w.drawn+1 }:=hr.drawn _
 have fin:∀ (b:Bool) (sF:St) (eF:Env) (q:Rho) (a':Act) (w':World),Ext r s { w with drawn:=w.drawn+1 } q sF w'→Qk ⟨K.n,fun _=>true⟩ q eF a'→sF.next=s.next+1→(∀ i,i≠s.next→sF.get i=s.get i) →
   eF.get t=some (.bool b)→(∀ x,x≠t→x≠u→eF.get x=e.get x)→Q .normal a' w':=fun b sF eF q a' w' hx hE hnx hget ht hoth=>by
  refine hQ .normal ((e.set u none).set t (some (.bool b))) ⟨s.heap,s.next+1⟩ ?_ q a' w' (((Ext.drawn hr _).trans hx).forget (fun i c hc => ?_) hnx.symm) ⟨fun x v hv => ?_,hE.size,hE.defers⟩
  ·unfold Rv; cases b
   ·exact List.mem_cons_of_mem _ List.mem_cons_self
   ·exact List.mem_cons_self
  ·have hc:s.get i=some c:=hc
   rw [hget i fun e=>by subst e; rw [hn0] at hc; cases hc]
   exact hc
  ·rw [Jo] at hv
   by_cases h1:t=x
   ·subst h1
    rw [if_pos rfl] at hv
    cases hv
    exact ⟨hkt,(hE.env t _ ht).2⟩
   ·rw [if_neg h1,Jo] at hv
    by_cases h2:u=x
    ·rw [if_pos h2] at hv; cases hv
    ·rw [if_neg h2] at hv
     exact ⟨(he.env x v hv).1,(hE.env x v (by rw [hoth x (Ne.symm h1) (Ne.symm h2)]; exact hv)).2⟩
 have last:∀ (b:Bool) (sF:St) (e1:Env) (q:Rho) (a':Act) (w':World),Ext r s { w with drawn:=w.drawn+1 } q sF w'→Qk ⟨K.n,fun _=>true⟩ q e1 a'→sF.next=s.next+1→(∀ i,i≠s.next→sF.get i=s.get i) →
   e1.get u=some (.ptr s.next 0)→sF.get s.next=some (.cells [.bool b] 0 false)→(∀ x,x≠u→e1.get x=e.get x)→wpAny P .any ops Q 1 #[true,true,true,false] a' w':=fun b sF e1 q a' w' hx hE hnx hget hu hc hoth=>by
  refine ⟨fun h=>(by rw [r4] at h; cases h),fun j hj => ?_⟩
  rw [r4] at hj
  rcases List.mem_singleton.1 hj with rfl
  refine VC hx.rel hE h3 g3 (by unfold Qr; rw [d3]; exact Nat.ble_eq_true_of_le htn) (by rw [p3]; exact run_load hw hu hc) fun q' a'' w'' hx' hE' => ?_
  refine ⟨r5,?_⟩
  have hd:JT ⟨K.n,fun _=>true⟩ o3=some (bits t):=by unfold JT; rw [d3]; rfl
  rw [hd] at hE'
  have hE':Qk ⟨K.n,fun _=>true⟩ q' (e1.set t (some (.bool b))) a'':=hE'
  exact fin b sF _ q' a'' w'' (hx.trans hx') hE' hnx hget (KV _ _ _) fun x h1 h2=>by rw [Yd _ _ (Ne.symm h1)]; exact hoth x h2
 refine ⟨fun h=>(by have h:Region.ready .any ops #[false,false,false,false]=[]:=h; rw [r0] at h; cases h),fun j hj => ?_⟩
 have hj:j∈Region.ready .any ops #[false,false,false,false]:=hj
 rw [r0] at hj
 rcases List.mem_singleton.1 hj with rfl
 have hrun0:(comp (Q7 0 .nil) P (fun _ _ _ => .bad) o0.op).run [] e s = .ok (.ptr s.next 0) (s.new (.cells [.bool false] 0 false)):=by
  rw [p0]
  show Sb (XZ P ty) [] e s=_
  rw [hz]; rfl
 refine VC hr' he' h0 g0 (by unfold Qr; rw [d0]; exact Nat.ble_eq_true_of_le hun) hrun0 fun q a1 w1 hx1 hE1 => ?_
 have hd:JT ⟨K.n,fun _=>true⟩ o0=some (bits u):=by unfold JT; rw [d0]; rfl
 rw [hd] at hE1
 have hE1:Qk ⟨K.n,fun _=>true⟩ q (e.set u (some (.ptr s.next 0))) a1:=hE1
 have hu1:(e.set u (some (.ptr s.next 0))).get u=some (.ptr s.next 0):=KV _ _ _
 have hot:∀ x,x≠u→(e.set u (some (.ptr s.next 0))).get x=e.get x:=fun x hx=>Yd _ _ (Ne.symm hx)
 have hc1:(s.new (.cells [.bool false] 0 false)).get s.next=some (.cells [.bool false] 0 false):=by rw [St.ZB,if_pos rfl]
 have hg1':∀ i,i≠s.next→(s.new (.cells [.bool false] 0 false)).get i=s.get i:=fun i hi=>by rw [St.ZB,if_neg (Ne.symm hi)]
 have hnx1:(s.new (.cells [.bool false] 0 false)).next=s.next+1:=St.Qg _ _
 generalize (s.new (.cells [.bool false] 0 false))=s1 at hx1 hc1 hg1' hnx1
 generalize e.set u (some (.ptr s.next 0))=e1 at hE1 hu1 hot
 have nod:∀ {o:Oper} {v:Zc},o.dst=none→Kl e1 v (JT ⟨K.n,fun _=>true⟩ o)=e1:=fun {o v} h=>by unfold JT; rw [h]; rfl
 have nodi:∀ {o:Oper},o.dst=none→Qr ⟨K.n,fun _=>true⟩ o=true:=fun {o} h=>by unfold Qr; rw [h]
 have put1:∀ (sA:St) (b:Bool),sA.next=s.next+1→(∀ i,i≠s.next→sA.get i=s.get i)→(sA.put s.next (.cells [.bool b] 0 false)).next=s.next+1∧(∀ i,i≠s.next→(sA.put s.next (.cells [.bool b] 0 false)).get i=s.get i) ∧
   (sA.put s.next (.cells [.bool b] 0 false)).get s.next=some (.cells [.bool b] 0 false):=fun sA b h1 h2=>⟨h1,fun i hi=>by rw [St.QK,if_neg (Ne.symm hi)]; exact h2 i hi,by rw [St.QK,if_pos rfl]⟩
 refine ⟨fun h=>(by have h:Region.ready .any ops #[true,false,false,false]=[]:=h; rw [r1] at h; cases h),fun j hj => ?_⟩
 have hj:j∈Region.ready .any ops #[true,false,false,false]:=hj
 rw [r1] at hj
 rcases List.mem_cons.1 hj with rfl | hj
 ·refine VC hx1.rel hE1 h1 g1 (nodi d1) (by rw [p1]; exact run_store hw hu1 hc1) fun q2 a2 w2 hx2 hE2 => ?_
  rw [nod d1] at hE2
  obtain ⟨k1,k2,k3⟩:=put1 s1 true hnx1 hg1'
  refine ⟨fun h=>(by have h:Region.ready .any ops #[true,true,false,false]=[]:=h; rw [r2] at h; cases h),fun j hj => ?_⟩
  have hj:j∈Region.ready .any ops #[true,true,false,false]:=hj
  rw [r2] at hj
  rcases List.mem_singleton.1 hj with rfl
  refine VC hx2.rel hE2 h2 g2 (nodi d2) (by rw [p2]; exact run_store hw hu1 k3) fun q3 a3 w3 hx3 hE3 => ?_
  rw [nod d2] at hE3
  obtain ⟨l1,l2,l3⟩:=put1 _ false k1 k2
  exact last false _ e1 q3 a3 w3 ((hx1.trans hx2).trans hx3) hE3 l1 l2 hu1 l3 hot
 ·rcases List.mem_singleton.1 hj with rfl
  refine VC hx1.rel hE1 h2 g2 (nodi d2) (by rw [p2]; exact run_store hw hu1 hc1) fun q2 a2 w2 hx2 hE2 => ?_
  rw [nod d2] at hE2
  obtain ⟨k1,k2,k3⟩:=put1 s1 false hnx1 hg1'
  refine ⟨fun h=>(by have h:Region.ready .any ops #[true,false,true,false]=[]:=h; rw [r3] at h; cases h),fun j hj => ?_⟩
  have hj:j∈Region.ready .any ops #[true,false,true,false]:=hj
  rw [r3] at hj
  rcases List.mem_singleton.1 hj with rfl
  refine VC hx2.rel hE2 h1 g1 (nodi d1) (by rw [p1]; exact run_store hw hu1 k3) fun q3 a3 w3 hx3 hE3 => ?_
  rw [nod d1] at hE3
  obtain ⟨l1,l2,l3⟩:=put1 _ true k1 k2
  exact last true _ e1 q3 a3 w3 ((hx1.trans hx2).trans hx3) hE3 l1 l2 hu1 l3 hot
end Go.Proofs.YtheflbaejhlboaaGreatDoor.Ev
namespace Go.Proofs.YtheflbaejhlboaaGreatDoor.Ev
open Go Go.Proofs Go.Shelf
set_option maxRecDepth 100000
variable [Sig]
theorem Qn:Tryz.prog.follows .mixedOrders=true:=by kernel_rfl
def ZhA (n:Nat):FuncId:=match n with
 | 264=>403
 | _=>0
def ZhB (n:Nat):TypeId:=match n with
 | 46=>209
 | 53=>289
 | _=>0
def ZiH:Ren:=⟨ZhA,ZhB,fun x=>x⟩
theorem ZhC:Lays.n264 Tryz.prog ZiH where
 mixed:=by kernel_rfl
 f264:=by kernel_rfl
 t46:=by kernel_rfl
 a46:=fun _=>by kernel_rfl
 z46:=fun _=>by kernel_rfl
 v46:=fun _=>by kernel_rfl
 t53:=by kernel_rfl
 a53:=fun _=>by kernel_rfl
 z53:=fun _=>by kernel_rfl
 v53:=fun _=>by kernel_rfl
theorem ZfE:Z4 Tryz.prog 403 Zdj :=
 mul_right Tryz.func403 (by kernel_rfl) rfl fun x y hx hy w=>Any.bits_Mul64 ZhC x y hx hy w
theorem Zbn:Z4 Tryz.prog 594 (W8 false (W7 Tryz.prog Tryz.f594)) :=
 RE false Tryz.func594 (by kernel_rfl) (by kernel_rfl) (by kernel_rfl) (by kernel_rfl)
theorem Zbo:Z4 Tryz.prog 593 (W8 true (W7 Tryz.prog Tryz.f593)) :=
 RE true Tryz.func593 (by kernel_rfl) (by kernel_rfl) (by kernel_rfl) (by kernel_rfl)
theorem Zbp:Z4 Tryz.prog 218 (W7 Tryz.prog Tryz.f218) :=
 PY Tryz.func218 (by kernel_rfl) (by kernel_rfl) (by kernel_rfl)
theorem Zbq:Z4 Tryz.prog 401 Hc :=
 Fj Tryz.func401 (by kernel_rfl) (by kernel_rfl) (by kernel_rfl) (by kernel_rfl)
end Go.Proofs.YtheflbaejhlboaaGreatDoor.Ev
namespace Go.Proofs.YtheflbaejhlboaaGreatDoor.Ev
open Go Go.Proofs
set_option maxRecDepth 100000
variable [Sig]
noncomputable def ZhD:Two:=⟨227,3,13,12,DY⟩
theorem Zbr {Zi:YW} (hk:Zi 13=true) {id:Nat} {ops:Array Oper} {o0 o1 o2 o3:Oper} (hops:ops = #[o0,o1,o2,o3]) (d0:o0.dst=some 12) (d1:o1.dst=none) (d2:o2.dst=none) (d3:o3.dst=some 13) (p0:o0.op = .alloc 4)
  (p1:o1.op = .store 4 (.tmp 12) (.const (.bool true))) (p2:o2.op = .store 4 (.tmp 12) (.const (.bool false))) (p3:o3.op = .load 4 (.tmp 12)) (g0:o0.guard=none) (g1:o1.guard=none) (g2:o2.guard=none) (g3:o3.guard=none)
  (r0:Region.ready .any ops #[false,false,false,false]=[0]) (r1:Region.ready .any ops #[true,false,false,false]=[1,2]) (r2:Region.ready .any ops #[true,true,false,false]=[2]) (r3:Region.ready .any ops #[true,false,true,false]=[1])
  (r4:Region.ready .any ops #[true,true,true,false]=[3]) (r5:Region.ready .any ops #[true,true,true,true]=[]) :
  Zv Tryz.prog ⟨Tryz.f227.ntmps,Zi⟩ (.region id ops true) (Rv 13 12):=by
 subst hops
 exact D4 Qn rfl rfl rfl rfl rfl d0 d1 d2 d3 p0 p1 p2 p3 g0 g1 g2 g3 r0 r1 r2 r3 r4 r5 (by kernel_rfl) (by kernel_rfl) (by decide) hk (show (13:Nat)<67 by decide) (show (12:Nat)<67 by decide)
theorem ZfF (Zi:YW) (hk:Zi 13=true):Z4 Tryz.prog 227 (Zdb Tryz.prog ZhD Zi Tryz.f227):=by
 refine Uu (T:=ZhD) Qn Tryz.func227 rfl Tryz.call227 ?_
 show Qq (fun id ops d=>id=3→Zv _ _ _ (Rv 13 12)) _
 repeat' first
  | exact trivial
  | refine And.intro ?_ ?_
  | exact fun h=>absurd h (by decide)
  | (intro _; refine Zbr hk rfl rfl rfl rfl rfl rfl rfl rfl rfl rfl rfl rfl rfl ?_ ?_ ?_ ?_ ?_ ?_ <;> kernel_rfl)
end Go.Proofs.YtheflbaejhlboaaGreatDoor.Ev
