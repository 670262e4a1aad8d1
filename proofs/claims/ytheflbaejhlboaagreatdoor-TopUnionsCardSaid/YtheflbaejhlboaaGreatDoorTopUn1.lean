/- A part of the proof of a law of package confluencetop: lemmas, no condition of ours. -/
import Derived.Test.YtheflbaejhlboaaGreatDoorTopUn0
import Derived.Test.YtheflbaejhlboaaGreatDoorProg
import Derived.Laws.Externs
import Derived.Laws.Cover2
import Derived.Laws.Cover3
import Derived.Laws.FloatArith
import Derived.Lib.SliceRun
import Derived.Deep.RegionHeld3
set_option linter.unusedVariables false
set_option linter.unusedSectionVars false
set_option linter.unusedSimpArgs false
namespace Go.Proofs.YtheflbaejhlboaaGreatDoor
open Go.RowKit
theorem BQ {n:Nat} (h:n≤1125899906842624) (w:World):(callFunc 218 #[.float .f64 (fl n)]).run Tryz.prog w = .ok (.value (.float .f64 (fl n))) w:=by
 rw [run_callFunc_extern Tryz.func218 (by kernel_rfl) (by kernel_rfl) (by kernel_rfl) (e:=Extern.MathFloor.toIntegral "math.archTrunc" .zero) (by kernel_rfl)]
 have h1:=Ek (n:=n) (by omega)
 have h2:=Su (n:=n) (by omega)
 have e:Extern.MathFloor.toIntegral "math.archTrunc" .zero #[.float .f64 (fl n)]=(match FloatKind.f64.decode (fl n) with
  | .nan s t =>
   if FloatKind.f64.format.quiet t=t then pure (.float .f64 (fl n)) else do
   let kept ← choose (.extern "math.Floor,Ceil,Trunc,RoundToEven.signallingNaN kept" 2)
   pure (.float .f64 (if kept==1 then (fl n) else FloatKind.f64.encode (.nan s (FloatKind.f64.format.quiet t))))
  | d=>pure (.float .f64 (FloatKind.f64.encode (d.integral .zero)))):=rfl
 have h3:∃ s m p,FloatKind.f64.decode (fl n) = .number s m p:=by
  rw [h2]; unfold BM; split <;> exact ⟨_,_,_,rfl⟩
 obtain ⟨s,m,p,h3⟩:=h3
 rw [e]
 rw [h3] at h1 ⊢
 simp only [h1,Sem.run_pure,Result.andThen]
theorem Zcs:fl 1125899906842624=4832362400168542208:=by decide +kernel
theorem Hy {n:Nat} (h:n≤1125899906842624) (w:World):Calls Tryz.prog 135 #[.float .f64 (fl n)] w fun e w'=>e = .returned (.float .f64 (fl n))∧Chg (fun _=>False) w w':=by
 have h1:=fun w=>BQ h w
 go_enter Tryz.func135,Tryz.ntmps135
 go_wp2_with fail
 go_ret
 exact ⟨rfl,Chg.refl _ _⟩
theorem Em {n:Nat} (h:n≤1125899906842624):FloatKind.f64.format.order (fl n) 0=some .gt∨FloatKind.f64.format.order (fl n) 0=some .eq:=by
 have h2:=Yw (a:=n) (b:=0) (by omega) (by omega)
 rw [Xf] at h2
 rw [h2]
 simp only [Int.compare_eq_ite_lt]
 rcases Nat.eq_zero_or_pos n with rfl | h0
 ·exact .inr rfl
 ·rw [if_neg (by omega),if_pos (by omega)]; exact .inl rfl
theorem En {n:Nat} (h:n≤1125899906842624):FloatKind.f64.format.order (fl n) 4832362400168542208=some .lt∨FloatKind.f64.format.order (fl n) 4832362400168542208=some .eq:=by
 have h2:=Yw (a:=n) (b:=1125899906842624) (by omega) (by omega)
 rw [Zcs] at h2
 rw [h2]
 simp only [Int.compare_eq_ite_lt]
 rcases Nat.lt_or_ge n 1125899906842624 with h0 | h0
 ·rw [if_pos (by omega)]; exact .inl rfl
 ·rw [if_neg (by omega),if_neg (by omega)]; exact .inr rfl
theorem Eo {n:Nat} (h:n≤1125899906842624):FloatKind.f64.format.order (fl n) (fl n)=some .eq:=by
 rw [Yw (a:=n) (b:=n) (by omega) (by omega)]
 simp only [Int.compare_eq_ite_lt]
 rw [if_neg (by omega),if_neg (by omega)]
theorem Rc {n:Nat} (h:n≤1125899906842624) (w:World):Calls Tryz.prog 85 #[.float .f64 (fl n)] w fun e w'=>e = .returned (.bool true)∧Chg (fun _=>False) w w':=by
 have h4:=Eo h
 rcases Em h with h2 | h2 <;> rcases En h with h3 | h3
 all_goals
  go_enter Tryz.func85,Tryz.ntmps85
  go_wp2_with fail
  refine (Hy h w).mono ?_
  rintro _ w1 ⟨rfl,hc⟩
  go_wp2_with fail
  go_ret
  exact ⟨rfl,hc⟩
def tc (a b:Nat):Value := .complex .f64 (fl a) (fl b)
theorem Q5 {a b:Nat} (ha:a≤1125899906842624) (hb:b≤1125899906842624) (w:World):Calls Tryz.prog 55 #[tc a b] w fun e w'=>e = .returned (.bool true)∧Chg (fun _=>False) w w':=by
 unfold tc
 go_enter Tryz.func55,Tryz.ntmps55
 go_wp2_with fail
 refine (Rc ha w).mono ?_
 rintro _ w1 ⟨rfl,hc⟩
 go_wp2_with fail
 refine (Rc hb w1).mono ?_
 rintro _ w2 ⟨rfl,hc2⟩
 go_wp2_with fail
 go_ret
 exact ⟨rfl,hc.trans hc2 fun _ _ h=>h⟩
def tn (n:Int):Value:=tc n.toNat (-n).toNat
theorem Hz {n:Nat} (h:n≤1125899906842624) (src dst:TypeId) (w:World) (hs:(Tryz.prog.underlying src).isSome=true) (hd:Tryz.prog.underlying dst=some (.int .i64)) :
  (convert src dst (.float .f64 (fl n))).run Tryz.prog w = .ok (.int .i64 (n:Int)) w:=by
 refine run_convert_float_int w src dst .f64 .i64 _ _ hs hd ?_
 unfold floatToIntVal
 rw [El (by omega)]
 simp only
 rw [if_pos]
 simp only [IntKind.min,IntKind.max,IntKind.signed,IntKind.bits]
 omega
theorem Ya (n:Nat) (src dst:TypeId) (w:World) (hs:(Tryz.prog.underlying src).isSome=true) (hd:Tryz.prog.underlying dst=some (.float .f64)) :
  (convert src dst (.int .i64 (n:Int))).run Tryz.prog w = .ok (.float .f64 (fl n)) w :=
 run_convert_int_float w src dst .i64 .f64 _ hs hd
theorem HH {a b:Nat} (ha:a≤1125899906842624) (hb:b≤1125899906842624) (w:World):Calls Tryz.prog 41 #[tc a b] w fun e w'=>e = .returned (.tuple #[.int .i64 (a:Int),.int .i64 (b:Int),.bool true])∧Chg (fun _=>False) w w':=by
 have h1:=Q5 ha hb w
 unfold tc at h1 ⊢
 have h2:=fun w=>Hz ha 85 2 w (by kernel_rfl) (by kernel_rfl)
 have h3:=fun w=>Hz hb 85 2 w (by kernel_rfl) (by kernel_rfl)
 go_enter Tryz.func41,Tryz.ntmps41
 go_wp2_with fail
 refine h1.mono ?_
 rintro _ w1 ⟨rfl,hc⟩
 go_wp2_with fail
 go_ret3
 exact ⟨rfl,hc⟩
theorem Jx {a b:Nat} (ha:a≤1125899906842624) (hb:b≤1125899906842624) (w:World):Calls Tryz.prog 30 #[tc a b] w fun e w'=>e = .returned (.int .i64 ((a:Int)-(b:Int)))∧Chg (fun _=>False) w w':=by
 have h1:=HH ha hb w
 have hw:IntKind.i64.wrap ((a:Int)-(b:Int))=(a:Int)-(b:Int):=IntWalk.i64_in _ (by omega)
 unfold tc at h1 ⊢
 go_enter Tryz.func30,Tryz.ntmps30
 go_wp2_with fail
 refine h1.mono ?_
 rintro _ w1 ⟨rfl,hc⟩
 go_wp2_with fail
 go_ret
 exact ⟨rfl,hc⟩
theorem Sw (a b:Nat) (w:World):Calls Tryz.prog 165 #[.int .i64 (a:Int),.int .i64 (b:Int)] w fun e w'=>e = .returned (tc a b)∧Chg (fun _=>False) w w':=by
 unfold tc
 have h2:=fun w=>Ya a 2 85 w (by kernel_rfl) (by kernel_rfl)
 have h3:=fun w=>Ya b 2 85 w (by kernel_rfl) (by kernel_rfl)
 go_enter Tryz.func165,Tryz.ntmps165
 go_wp2_with fail
 go_ret
 exact ⟨rfl,Chg.refl _ _⟩
theorem HJ {n:Int} (hl : -1125899906842624≤n) (hu:n≤1125899906842624) (w:World):Calls Tryz.prog 400 #[.int .i64 n] w fun e w'=>e = .returned (tn n)∧Chg (fun _=>False) w w':=by
 have h1:∀ x y:Int,x=(n.toNat:Int)→y=((-n).toNat:Int)→Calls Tryz.prog 165 #[.int .i64 x,.int .i64 y] w fun e w'=>e = .returned (tn n)∧Chg (fun _=>False) w w':=by
  rintro _ _ rfl rfl
  exact Sw n.toNat (-n).toNat w
 have hw:IntKind.i64.wrap (-n) = -n:=IntWalk.i64_in _ (by omega)
 go_enter Tryz.func400,Tryz.ntmps400
 go_wp2_with fail
 all_goals
  refine (h1 _ _ (by omega) (by omega)).mono ?_
  rintro _ w1 ⟨rfl,hc⟩
  go_wp2_with fail
  go_ret
  exact ⟨rfl,hc⟩
theorem N9 {a b:Nat} (ha:a≤1125899906842624) (hb:b≤1125899906842624) (w:World):Calls Tryz.prog 289 #[tc a b] w fun e w'=>e = .returned (tn ((a:Int)-b))∧Chg (fun _=>False) w w':=by
 have h1:=Jx ha hb w
 unfold tc at h1 ⊢
 go_enter Tryz.func289,Tryz.ntmps289
 go_wp2_with fail
 refine h1.mono ?_
 rintro _ w1 ⟨rfl,hc⟩
 go_wp2_with fail
 refine (HJ (by omega) (by omega) w1).mono ?_
 rintro _ w2 ⟨rfl,hc2⟩
 go_wp2_with fail
 go_ret
 exact ⟨rfl,hc.trans hc2 fun _ _ h=>h⟩
def Re (n:Int):Value:=if -1125899906842624≤n∧n≤1125899906842624 then .tuple #[tn n,.bool true] else .tuple #[tn 0,.bool false]
theorem H0 (n:Int):∃ t b,Re n = .tuple #[t,.bool b]:=by
 unfold Re
 split
 ·exact ⟨_,_,rfl⟩
 ·exact ⟨_,_,rfl⟩
theorem La:tn 0 = .complex .f64 0 0:=by
 show Value.complex .f64 (fl 0) (fl 0)=_
 rw [Xf]
theorem F4 {n:Int} (hl : -9223372036854775807≤n) (hu:n≤9223372036854775807) (w:World):Calls Tryz.prog 399 #[.int .i64 n,.bool true] w fun e w'=>e = .returned (Re n)∧Chg (fun _=>False) w w':=by
 have hw:IntKind.i64.wrap (-n) = -n:=IntWalk.i64_in _ (by omega)
 unfold Re
 by_cases h0:n>1125899906842624
 ·rw [if_neg (by omega),La]
  go_enter Tryz.func399,Tryz.ntmps399
  go_wp2_with fail
  go_ret2
  exact ⟨rfl,Chg.refl _ _⟩
 ·have h0':n≤1125899906842624:=by omega
  by_cases h1 : -n>1125899906842624
  ·rw [if_neg (by omega),La]
   go_enter Tryz.func399,Tryz.ntmps399
   go_wp2_with fail
   go_ret2
   exact ⟨rfl,Chg.refl _ _⟩
  ·rw [if_pos ⟨by omega,by omega⟩]
   have h1' : -n≤1125899906842624:=by omega
   go_enter Tryz.func399,Tryz.ntmps399
   go_wp2_with fail
   refine (HJ (by omega) (by omega) w).mono ?_
   rintro _ w2 ⟨rfl,hc2⟩
   go_wp2_with fail
   go_ret2
   exact ⟨rfl,hc2⟩
theorem F5 {a b c d:Nat} (ha:a≤1125899906842624) (hb:b≤1125899906842624) (hc:c≤1125899906842624) (hd:d≤1125899906842624) (w:World) :
  Calls Tryz.prog 287 #[tc a b,tc c d] w fun e w'=>e = .returned (Re (((a:Int)-b)+((c:Int)-d)))∧Chg (fun _=>False) w w':=by
 have h1:=Jx ha hb
 have h2:=Jx hc hd
 have h3:=Q5 ha hb
 have h4:=Q5 hc hd
 have hw:IntKind.i64.wrap (((a:Int)-b)+((c:Int)-d))=((a:Int)-b)+((c:Int)-d):=IntWalk.i64_in _ (by omega)
 unfold tc at h1 h2 h3 h4 ⊢
 go_enter Tryz.func287,Tryz.ntmps287
 go_wp2_with fail
 refine (h1 w).mono ?_
 rintro _ w1 ⟨rfl,hc1⟩
 go_wp2_with fail
 refine (h2 w1).mono ?_
 rintro _ w2 ⟨rfl,hc2⟩
 go_wp2_with fail
 refine (h3 w2).mono ?_
 rintro _ w3 ⟨rfl,hc3⟩
 go_wp2_with fail
 refine (h4 w3).mono ?_
 rintro _ w4 ⟨rfl,hc4⟩
 go_wp2_with fail
 refine (F4 (by omega) (by omega) w4).mono ?_
 rintro _ w5 ⟨rfl,hc5⟩
 have hcc:=(((hc1.trans hc2 fun _ _ h=>h).trans hc3 fun _ _ h=>h).trans hc4 fun _ _ h=>h).trans hc5 fun _ _ h=>h
 clear h1 h2 h3 h4 hc1 hc2 hc3 hc4 hc5
 obtain ⟨t,b,hs⟩:=H0 (((a:Int)-b)+((c:Int)-d))
 rw [hs]
 go_wp2_with fail
 go_ret2
 exact ⟨by rw [hs]; rfl,hcc⟩
theorem H4 {a b:Nat} (ha:a≤1125899906842624) (hb:b≤1125899906842624) (w:World):Calls Tryz.prog 173 #[tc a b] w fun e w'=>e = .returned (tc b a)∧Chg (fun _=>False) w w':=by
 have h1:=Q5 ha hb w
 unfold tc at h1 ⊢
 go_enter Tryz.func173,Tryz.ntmps173
 go_wp2_with fail
 refine h1.mono ?_
 rintro _ w1 ⟨rfl,hc⟩
 go_wp2_with fail
 go_ret
 exact ⟨rfl,hc⟩
end Go.Proofs.YtheflbaejhlboaaGreatDoor
namespace Go.Proofs.YtheflbaejhlboaaGreatDoor
open Go.RowKit
def QR (r:List Vl):List Value:=r.flatMap Vl.cells
theorem VP (r:List Vl):(QR r).length=r.length*3:=by
 induction r with
 | nil=>rfl
 | cons v r ih =>
  rw [QR,List.flatMap_cons,List.length_append,List.length_cons]
  have:(List.flatMap Vl.cells r).length=r.length*3:=ih
  rw [this]
  simp [Vl.cells]
  omega
theorem Yx {α : Type} (f : α → List Value) (k:Nat) (hk:∀ x,(f x).length=k):∀ (l:List α) (j i:Nat) (x : α),l[j]? = some x→i<k→(l.flatMap f)[j*k+i]? = (f x)[i]?
 | [],j,i,x,h,_=>by simp at h
 | a::l,0,i,x,h,hi=>by
  simp at h
  subst h
  rw [List.flatMap_cons,Nat.zero_mul,Nat.zero_add,List.getElem?_append_left (by rw [hk]; exact hi)]
 | a::l,j+1,i,x,h,hi=>by
  rw [List.flatMap_cons,List.getElem?_append_right (by rw [hk,Nat.add_mul]; omega),hk,show (j+1)*k+i-k=j*k+i by rw [Nat.add_mul]; omega]
  exact Yx f k hk l j i x (by simpa using h) hi
theorem Ep {α : Type} (f : α → List Value) (k:Nat) (hk:∀ x,(f x).length=k) (l:List α):(l.flatMap f).length=l.length*k:=by
 induction l with
 | nil=>simp
 | cons a l ih=>rw [List.flatMap_cons,List.length_append,ih,hk,List.length_cons,Nat.add_mul]; omega
theorem Sx {r:List Vl} {j:Nat} {x:Vl} (h:r[j]? = some x) {i:Nat} (hi:i<3):(QR r)[j*3+i]? = x.cells[i]? :=
 Yx Vl.cells 3 (fun _=>rfl) r j i x h hi
theorem F6 (r:List Vl):∀ u∈QR r,u.oneCell'=true:=by
 intro u hu
 simp only [QR,List.mem_flatMap,Vl.cells,List.mem_cons,List.not_mem_nil,or_false] at hu
 obtain ⟨v,_,rfl | rfl | rfl⟩:=hu <;> rfl
def ZeR (r:List Vl):Prop:=∀ x∈r,x.s.length≤9223372036854775807
theorem Zq.fit {F:Nat→Prop} {w:World} {v:Value} {r:List Vl} (h:Zq F w v r):ZeR r:=by
 obtain ⟨A,cap,_,_,_,h3⟩:=h
 intro x hx
 obtain ⟨j,hj⟩:=List.getElem?_of_mem hx
 obtain ⟨b,off,_,_,_,h4⟩:=h3 (by have:=(List.getElem?_eq_some_iff.1 hj).1; omega)
 exact (h4 j x hj).2.2.2
theorem Zq.csK {F:Nat→Prop} {w:World} {A:Option Addr} {n cap:Nat} {r:List Vl} (h:Zq F w (.slice A n cap) r):n=r.length∧CsK w F 3 A n (QR r):=by
 obtain ⟨A',cap',e,h1,h2,h3⟩:=h
 injection e with e1 e2 e3
 subst e1; subst e2; subst e3
 refine ⟨rfl,VP r,fun h0 => ?_⟩
 obtain ⟨b,off,e,hF,hb,h4⟩:=h3 h0
 refine ⟨b,off,e,hF,hb,fun j u hu => ?_⟩
 have hj:j<r.length*3:=by
  have:=(List.getElem?_eq_some_iff.1 hu).1
  rwa [VP] at this
 obtain ⟨m,i,hi,rfl⟩:∃ m i,i<3∧j=m*3+i:=⟨j / 3,j%3,Nat.mod_lt _ (by decide),by omega⟩
 have hm:m<r.length:=by omega
 have hx:r[m]? = some r[m]:=List.getElem?_eq_getElem hm
 obtain ⟨q0,q1,q2,_⟩:=h4 m _ hx
 rw [Sx hx hi] at hu
 have hc:i=0∨i=1∨i=2:=by omega
 rcases hc with rfl | rfl | rfl <;> simp [Vl.cells] at hu <;> subst hu
 ·exact q0
 ·rw [← Nat.add_assoc]; exact q1
 ·rw [← Nat.add_assoc]; exact q2
theorem Zq.ZeS {F:Nat→Prop} {w:World} {A:Option Addr} {cap:Nat} {r:List Vl} (h:CsK w F 3 A r.length (QR r)) (h1:r.length≤cap) (h2:cap≤9223372036854775807) (hf:ZeR r):Zq F w (.slice A r.length cap) r:=by
 refine ⟨A,cap,rfl,h1,h2,fun h0 => ?_⟩
 obtain ⟨b,off,e,hF,hb,hc⟩:=h.2 h0
 refine ⟨b,off,e,hF,hb,fun j x hx => ?_⟩
 have g:∀ i u,i<3→x.cells[i]? = some u→w.cell? ⟨b,off+(j*3+i),none⟩=some u:=fun i u hi hu=>hc _ _ (by rw [Sx hx hi]; exact hu)
 refine ⟨g 0 _ (by decide) rfl,?_,?_,hf x (List.mem_of_getElem? hx)⟩
 ·rw [Nat.add_assoc]; exact g 1 _ (by decide) rfl
 ·rw [Nat.add_assoc]; exact g 2 _ (by decide) rfl
def Neu (w:World) (R:Value→World→Prop) (e:Ending) (w':World):Prop:=∃ v,e = .returned v∧R v w'∧Chg (fun _=>False) w w'
def new (w:World):Nat→Prop:=fun b=>w.heap.size≤b
theorem F7:Ei Tryz.prog 39 39 55 3 32:=by
 obtain ⟨i,hi,hz,hs,hb⟩:=info_parts (P:=Tryz.prog) (e:=55) (z := .agg #[.int .i64 0,.int .i64 0,.string ⟨#[]⟩]) (size:=3) (bytes:=32) (by kernel_rfl)
 exact ⟨Tryz.underlying39,⟨_,Tryz.underlying39⟩,⟨i,_,hi,hz,hs,hb,rfl⟩,by decide⟩
theorem Zq.F8 {w:World} {e:TypeId} {own:Option Nat} {A:Option Addr} {cap:Nat} {r:List Vl} {F:Nat→Prop} (h:QE w e 3 own A r.length cap (QR r)) (hF:∀ g,own=some g→F g) (hf:ZeR r):Zq F w (.slice A r.length cap) r :=
 Zq.ZeS (h.cs.mono fun b hb _=>hF b hb) h.fits h.Kg hf
theorem Sz {F:Nat→Prop} {w:World} {v:Value} {r:List Vl} (h:Zq F w v r) (hlen:r.length≤1000000) :
  Calls Tryz.prog 84 #[v] w (Neu w fun u w'=>Zq (new w) w' u r):=by
 have HF:=Lib.hid h.fit
 have hk:=h
 obtain ⟨A,cap,rfl,hn,hcap,hat⟩:=h
 obtain ⟨_,hcs⟩:=hk.csK
 clear hk hat
 have HL:=Lib.hid hlen
 have HC:=Lib.hid hcs
 clear hlen hcs
 have hz:=@Lib.run_eql_slice_nil Tryz.prog
 cases A with
 | none =>
  go_enter Tryz.func84,Tryz.ntmps84
  go_wp2_with fail
  go_ret
  have h0:r=[]:=by
   by_cases h0:0<r.length
   ·obtain ⟨b,off,e,_⟩:=HC.out.2 h0
    cases e
   ·exact List.eq_nil_of_length_eq_zero (by omega)
  subst h0
  exact ⟨_,rfl,Zq.Ws _ _,Chg.refl _ _⟩
 | some ad =>
  have H1:=Lib.hid (show CsK (w.alloc (.cells #[] 55)) F 3 (some ad) r.length (QR r) from HC.out.chg ((Chg.refl (fun _=>False) w).alloc _) fun _ _ _ h=>h)
  go_enter Tryz.func84,Tryz.ntmps84
  go_wp2_with (at_builtin; refine ZK rfl _ _ 39 39 rfl 55 3 32 F7 none _ 0 0 _ [] (QR r) _ rfl rfl (QE.Ws _ _ _ _) (Kt.slice H1.out) (F6 r) r.length ?_ ?_ ?_ ?_)
  ·have:=HL.out; omega
  ·have:=HL.out; omega
  ·intro own' A' cap' w' hown hor hchg
   have HO:=Lib.hid hown
   clear hown
   go_wp2_with fail
   go_ret
   refine ⟨_,rfl,Zq.F8 HO.out (fun g hg => ?_) HF.out,(((Chg.refl (fun _=>False) w).alloc _).trans hchg (fun _ _ hf=>by cases hf))⟩
   rcases hor with h0 | h0
   ·rw [h0] at hg; simp at hg
   ·rw [h0] at hg; simp at hg; show w.heap.size≤g; omega
structure Itm where
 row:List Vl
 a:Nat
 b:Nat
def F9 (F:Nat→Prop) (w:World) (b o:Nat) (x:Itm):Prop :=
 (∃ rv,w.cell? ⟨b,o,none⟩=some rv∧Zq F w rv x.row)∧w.cell? ⟨b,o+1,none⟩=some (tc x.a x.b)∧x.a≤1125899906842624∧x.b≤1125899906842624∧x.row.length≤1000000
def Zt (F:Nat→Prop) (w:World) (v:Value) (l:List Itm):Prop :=
 ∃ A cap,v = .slice A l.length cap∧l.length≤cap∧cap≤9223372036854775807 ∧
  (0<l.length→∃ b off,A=some ⟨b,off,none⟩∧F b∧b<w.heap.size∧∀ j x,l[j]? = some x→F9 F w b (off+j*2) x)
theorem F9.chg {F T:Nat→Prop} {w w':World} {b o:Nat} {x:Itm} (h:F9 F w b o x) (hc:Chg T w w') (hF:F b) (hn:∀ b,F b→b<w.heap.size→¬ T b):F9 F w' b o x:=by
 obtain ⟨⟨rv,h1,h2⟩,h3,h4⟩:=h
 have hb:=World.block_lt_of_cell? w _ h1
 exact ⟨⟨rv,hc.cell h1 (hn b hF hb),h2.chg hc hn⟩,hc.cell h3 (hn b hF hb),h4⟩
theorem Zt.chg {F T:Nat→Prop} {w w':World} {v:Value} {l:List Itm} (h:Zt F w v l) (hc:Chg T w w') (hn:∀ b,F b→b<w.heap.size→¬ T b):Zt F w' v l:=by
 obtain ⟨A,cap,e,h1,h2,h3⟩:=h
 refine ⟨A,cap,e,h1,h2,fun h0 => ?_⟩
 obtain ⟨b,off,e2,hF,hb,h4⟩:=h3 h0
 exact ⟨b,off,e2,hF,Nat.lt_of_lt_of_le hb hc.size,fun j x hx=>(h4 j x hx).chg hc hF hn⟩
theorem Zt.Zi {F:Nat→Prop} {w w':World} {v:Value} {l:List Itm} (h:Zt F w v l) (hc:Chg (fun _=>False) w w'):Zt F w' v l:=h.chg hc fun _ _ _ h=>h
theorem Zt.Ws (F:Nat→Prop) (w:World):Zt F w (.slice none 0 0) []:=⟨none,0,rfl,Nat.le_refl _,by decide,fun h=>absurd h (by simp)⟩
theorem F9.mono {F G:Nat→Prop} {w:World} {b o:Nat} {x:Itm} (h:F9 F w b o x) (hn:∀ b,F b→b<w.heap.size→G b):F9 G w b o x:=by
 obtain ⟨⟨rv,h1,h2⟩,h3,h4⟩:=h
 exact ⟨⟨rv,h1,h2.mono hn⟩,h3,h4⟩
theorem Zt.mono {F G:Nat→Prop} {w:World} {v:Value} {l:List Itm} (h:Zt F w v l) (hn:∀ b,F b→b<w.heap.size→G b):Zt G w v l:=by
 obtain ⟨A,cap,e,h1,h2,h3⟩:=h
 refine ⟨A,cap,e,h1,h2,fun h0 => ?_⟩
 obtain ⟨b,off,e2,hF,hb,h4⟩:=h3 h0
 exact ⟨b,off,e2,hn b hF hb,hb,fun j x hx=>(h4 j x hx).mono hn⟩
theorem Lb {w:World} {B:Nat} {x y:Value} {t:TypeId} (h:w.heap[B]? = some (.cells #[x,y] t (0,0))) :
  w.cell? ⟨B,0,none⟩=some x∧w.cell? ⟨B,1,none⟩=some y∧w.frozen? ⟨B,0,none⟩=false∧w.frozen? ⟨B,1,none⟩=false :=
 ⟨by rw [cell_of_row w B 0 _ t (0,0) h]; rfl,by rw [cell_of_row w B 1 _ t (0,0) h]; rfl,frozen_of_row w B 0 _ t h,frozen_of_row w B 1 _ t h⟩
theorem Z5 (a:Addr) (k:FloatKind) (x y:Nat) (m:Mode) (w:World):(store a (.complex k x y) m).run Tryz.prog w=stored Tryz.prog w a (.complex k x y) m:=run_store Tryz.prog w a _ m rfl
theorem KR {F:Nat→Prop} {w:World} {v:Value} {r:List Vl} {a b:Nat} (h:Zq F w v r) (hlen:r.length≤1000000) :
  Calls Tryz.prog 54 #[v,tc a b] w (Neu w fun u w'=>∃ rv,u = .agg #[rv,tc a b]∧Zq (new w) w' rv r):=by
 have h1:=fun w1 (hc:Chg (fun _=>False) w w1)=>Sz (h.Zi hc) hlen
 have hr:=h
 obtain ⟨A,cap,rfl,_⟩:=h
 have HR:=Lib.hid hr
 clear hr
 unfold tc
 have hst:=Z5
 go_enter Tryz.func54,Tryz.ntmps54
 go_wp2_with fail
 refine (h1 _ ((Chg.refl _ w).alloc _)).mono ?_
 rintro _ w1 ⟨u,rfl,hu,hc⟩
 have hb:w1.heap[w.heap.size]? = some (.cells #[.slice none 0 0,.complex .f64 0 0] 59 (0,0)):=hc.heap (heap_alloc_new w _) (fun h=>h)
 have hu':=hu
 obtain ⟨A',cap',rfl,_⟩:=hu
 have HU:=Lib.hid hu'
 clear hu'
 obtain ⟨q0,q1,q2,q3⟩:=Lb hb
 go_wp2_with fail
 (try simp only [Exit.inBlock,Exit.then])
 refine bodyPost_ret (v := .agg #[.slice A' r.length cap',.complex .f64 (fl a) (fl b)]) ?_ rfl ?_
 ·simp only [results,show Tryz.f54.results = #[.cell 4 59] from rfl]
  go_simp
 ·have h2:Chg (fun k=>k=w.heap.size) w1 ((w1.setCell ⟨w.heap.size,0,none⟩ (.slice A' r.length cap')).setCell ⟨w.heap.size,1,none⟩ (.complex .f64 (fl a) (fl b))) :=
   Chg.Jc (T:=fun k=>k=w.heap.size) (Chg.Jc (T:=fun k=>k=w.heap.size) (Chg.refl _ w1) (D:=w.heap.size) rfl 0 _) (D:=w.heap.size) rfl 1 _
  refine ⟨_,rfl,⟨_,rfl,?_⟩,(((Chg.refl (fun _=>False) w).alloc _).trans hc fun _ _ h=>h).trans h2 fun i hi e=>by omega⟩
  refine (HU.out.chg h2 fun b hb _ e => ?_).mono fun b hb _ => ?_
  ·have:w.heap.size+1≤b:=by simpa [new] using hb
   omega
  ·have:w.heap.size+1≤b:=by simpa [new] using hb
   show w.heap.size≤b
   omega
end Go.Proofs.YtheflbaejhlboaaGreatDoor
namespace Go.Proofs.YtheflbaejhlboaaGreatDoor
open Go.RowKit
abbrev PI:=Value×Itm
def ZC (ps:List PI):List Value:=ps.flatMap fun p=>[p.1,tc p.2.a p.2.b]
def POk (F:Nat→Prop) (w:World) (p:PI):Prop:=Zq F w p.1 p.2.row∧p.2.a≤1125899906842624∧p.2.b≤1125899906842624∧p.2.row.length≤1000000
theorem POk.chg {F T:Nat→Prop} {w w':World} {p:PI} (h:POk F w p) (hc:Chg T w w') (hn:∀ b,F b→b<w.heap.size→¬ T b):POk F w' p:=⟨h.1.chg hc hn,h.2⟩
theorem POk.mono {F G:Nat→Prop} {w:World} {p:PI} (h:POk F w p) (hn:∀ b,F b→b<w.heap.size→G b):POk G w p:=⟨h.1.mono hn,h.2⟩
theorem Xg (ps:List PI):(ZC ps).length=ps.length*2:=Ep _ 2 (fun _=>rfl) ps
theorem Yb {ps:List PI} {j:Nat} {p:PI} (h:ps[j]? = some p):(ZC ps)[j*2]? = some p.1∧(ZC ps)[j*2+1]? = some (tc p.2.a p.2.b) :=
 ⟨by have:=Yx (fun p:PI=>[p.1,tc p.2.a p.2.b]) 2 (fun _=>rfl) ps j 0 p h (by decide); rw [Nat.add_zero] at this; exact this,by have:=Yx (fun p:PI=>[p.1,tc p.2.a p.2.b]) 2 (fun _=>rfl) ps j 1 p h (by decide); exact this⟩
theorem Qe (ps:List PI) (p:PI):ZC (ps++[p])=ZC ps++[p.1,tc p.2.a p.2.b]:=by simp [ZC]
theorem Zt.Rf {F:Nat→Prop} {w:World} {A:Option Addr} {cap n:Nat} {ps:List PI} (h:CsK w F 2 A n (ZC ps)) (hn:n=ps.length) (h1:n≤cap) (h2:cap≤9223372036854775807) (hp:∀ p∈ps,POk F w p) :
  Zt F w (.slice A n cap) (ps.map (·.2)):=by
 subst hn
 refine ⟨A,cap,by rw [List.length_map],by rw [List.length_map]; exact h1,h2,fun h0 => ?_⟩
 rw [List.length_map] at h0
 obtain ⟨b,off,e,hF,hb,hc⟩:=h.2 h0
 refine ⟨b,off,e,hF,hb,fun j x hx => ?_⟩
 rw [List.getElem?_map] at hx
 obtain ⟨p,hp1,rfl⟩:=Option.map_eq_some_iff.1 hx
 obtain ⟨g0,g1⟩:=Yb hp1
 obtain ⟨k1,k2,k3,k4⟩:=hp p (List.mem_of_getElem? hp1)
 refine ⟨⟨p.1,hc _ _ g0,k1⟩,?_,k2,k3,k4⟩
 rw [Nat.add_assoc]
 exact hc _ _ g1
theorem MM {α β : Type} {R:Nat → α → β → Prop}:∀ (l:List α),(∀ j x,l[j]? = some x→∃ y,R j x y)→∃ ys:List (β × α),ys.map (·.2)=l∧∀ j p,ys[j]? = some p→R j p.2 p.1
 | [],_=>⟨[],rfl,fun j p h=>by simp at h⟩
 | a::l,h=>by
  obtain ⟨y,hy⟩:=h 0 a rfl
  obtain ⟨ys,h1,h2⟩:=MM (R:=fun j=>R (j+1)) l fun j x hx=>h (j+1) x (by simpa using hx)
  refine ⟨(y,a)::ys,by simp [h1],fun j p hp => ?_⟩
  cases j with
  | zero=>simp at hp; subst hp; exact hy
  | succ j=>exact h2 j p (by simpa using hp)
theorem Zt.Er {F:Nat→Prop} {w:World} {v:Value} {l:List Itm} (h:Zt F w v l) :
  ∃ A cap ps,v = .slice A l.length cap∧l.length≤cap∧cap≤9223372036854775807∧ps.map (·.2)=l∧CsK w F 2 A l.length (ZC ps)∧∀ p∈ps,POk F w p:=by
 obtain ⟨A,cap,e,h1,h2,h3⟩:=h
 by_cases h0:0<l.length
 ·obtain ⟨b,off,rfl,hF,hb,h4⟩:=h3 h0
  obtain ⟨ps,hps,hR⟩:=MM (R:=fun j (x:Itm) (rv:Value)=>w.cell? ⟨b,off+j*2,none⟩=some rv∧Zq F w rv x.row∧w.cell? ⟨b,off+j*2+1,none⟩=some (tc x.a x.b)∧x.a≤1125899906842624∧x.b≤1125899906842624∧x.row.length≤1000000) l
   fun j x hx=>by
    obtain ⟨⟨rv,q1,q2⟩,q3,q4⟩:=h4 j x hx
    exact ⟨rv,q1,q2,q3,q4⟩
  have hl:l.length=ps.length:=by rw [← hps,List.length_map]
  refine ⟨_,cap,ps,e,h1,h2,hps,⟨by rw [Xg,hl],fun _=>⟨b,off,rfl,hF,hb,fun j u hu => ?_⟩⟩,fun p hp => ?_⟩
  ·have hj:j<ps.length*2:=by have:=(List.getElem?_eq_some_iff.1 hu).1; rwa [Xg] at this
   obtain ⟨m,i,hi,rfl⟩:∃ m i,i<2∧j=m*2+i:=⟨j / 2,j%2,Nat.mod_lt _ (by decide),by omega⟩
   have hx:ps[m]? = some ps[m]:=List.getElem?_eq_getElem (by omega)
   obtain ⟨q1,_,q3,_⟩:=hR m _ hx
   obtain ⟨g0,g1⟩:=Yb hx
   have hc:i=0∨i=1:=by omega
   rcases hc with rfl | rfl
   ·rw [Nat.add_zero] at hu ⊢
    rw [g0] at hu
    cases hu
    exact q1
   ·rw [g1] at hu
    cases hu
    rw [← Nat.add_assoc]
    exact q3
  ·obtain ⟨j,hj⟩:=List.getElem?_of_mem hp
   obtain ⟨_,q2,_,q4⟩:=hR j p hj
   exact ⟨q2,q4⟩
 ·have hl:l=[]:=List.eq_nil_of_length_eq_zero (by omega)
  subst hl
  exact ⟨A,cap,[],e,h1,h2,rfl,⟨rfl,fun h=>absurd h (by simp)⟩,fun p hp=>by cases hp⟩
theorem Yc {F:Nat→Prop} {w:World} {ps:List PI} (h:∀ p∈ps,POk F w p):∀ u∈ZC ps,u.oneCell'=true:=by
 intro u hu
 simp only [ZC,List.mem_flatMap,List.mem_cons,List.not_mem_nil,or_false] at hu
 obtain ⟨p,hp,rfl | rfl⟩:=hu
 ·obtain ⟨⟨A,cap,e,_⟩,_⟩:=h p hp
  rw [e]; rfl
 ·rfl
theorem Kh:Ei Tryz.prog 45 45 59 2 40:=by
 obtain ⟨i,hi,hz,hs,hb⟩:=info_parts (P:=Tryz.prog) (e:=59) (z := .agg #[.slice none 0 0,.complex .f64 0 0]) (size:=2) (bytes:=40) (by kernel_rfl)
 exact ⟨Tryz.underlying45,⟨_,Tryz.underlying45⟩,⟨i,_,hi,hz,hs,hb,rfl⟩,by decide⟩
def Itm.net (x:Itm):Int:=(x.a:Int)-x.b
def XF (m:Int):List Itm→Int→Bool
 | [],_=>false
 | x::l,n=>if m≤n+x.net then true else XF m l (n+x.net)
set_option maxHeartbeats 1000000 in
theorem H5 {F:Nat→Prop} {w:World} {v:Value} {l:List Itm} (h:Zt F w v l) (hlen:l.length≤4096) :
  Calls Tryz.prog 167 #[v] w fun e w'=>e = .returned (.bool (XF 64 l 0))∧Chg (fun _=>False) w w':=by
 obtain ⟨A,cap,rfl,hn,hcap,hat⟩:=h
 have HA:=Lib.hid hat
 have HL:=Lib.hid hlen
 clear hat hlen
 go_enter Tryz.func167,Tryz.ntmps167
 go_wp2_with fail
 go_loopw [8,3] (fun i s wr=>∃ (I:Nat) (n:Int),I≤l.length∧i = .int .i64 I∧s = .int .i64 n∧n<64∧Hid (-((I:Int)*1125899906842624)≤n)∧Hid (XF 64 l 0=XF 64 (l.drop I) n)∧Chg (fun _=>False) w wr) (fun i _ _=>l.length-(intOf i).toNat)
 case atStart=>exact ⟨0,0,Nat.zero_le _,rfl,rfl,by decide,Lib.hid (by decide),Lib.hid (by simp),Chg.refl _ _⟩
 case round =>
  obtain ⟨I,n,hI,rfl,rfl,hn64,HN,HC,hcw⟩:=hrel
  by_cases hlt:I<l.length
  ·obtain ⟨b,off,rfl,_,hb,hx⟩:=HA.out (by omega)
   obtain ⟨x,hxI⟩:∃ x,l[I]? = some x:=⟨_,List.getElem?_eq_getElem hlt⟩
   obtain ⟨⟨rv,p0,hrow⟩,p1,ha,hbb,_⟩:=hx I x hxI
   have q0:=hcw.cell p0 (fun h=>h)
   have q1:=hcw.cell p1 (fun h=>h)
   have hd1:l.drop I=x::l.drop (I+1):=by
    obtain ⟨h1,h2⟩:=List.getElem?_eq_some_iff.1 hxI
    rw [← h2]
    exact List.drop_eq_getElem_cons h1
   obtain ⟨RA,rcap,rfl,_⟩:=hrow
   have hc1:=fun w=>Jx ha hbb w
   unfold tc at hc1 q1
   have hnn:=HN.out
   have hL:=HL.out
   have hw:IntKind.i64.wrap (n+((x.a:Int)-x.b))=n+((x.a:Int)-x.b):=IntWalk.i64_in _ (by omega)
   have HD:=Lib.hid (HC.out.trans (by rw [hd1,XF]))
   have hst:=Z5
   clear hd1 hxI hx p0 p1 HC
   unfold Itm.net at HD
   obtain ⟨d,hd⟩:∃ d:Int,(x.a:Int)-x.b=d:=⟨_,rfl⟩
   rw [hd] at hc1 hw HD
   have hdl : -1125899906842624≤d:=by omega
   have HN2:=Lib.hid (show -(((I+1:Nat):Int)*1125899906842624)≤n+d by omega)
   clear HN hnn hL ha hbb hd hdl
   by_cases h0:64≤n+d
   ·go_wp2_with fail
    refine (hc1 _).mono ?_
    rintro _ w1 ⟨rfl,hc⟩
    go_wp2_with fail
    go_ret
    exact ⟨by rw [HD.out,if_pos (by omega)]; rfl,(hcw.trans ((Chg.refl _ wr).alloc _) fun _ _ h=>h).trans hc fun _ _ h=>h⟩
   ·go_wp2_with fail
    refine (hc1 _).mono ?_
    rintro _ w1 ⟨rfl,hc⟩
    go_wp2_with fail
    go_roundw
    case rel=>exact ⟨I+1,n+d,by omega,by go_num,rfl,by omega,HN2,Lib.hid (HD.out.trans (if_neg (by omega))),(hcw.trans ((Chg.refl _ wr).alloc _) fun _ _ h=>h).trans hc fun _ _ h=>h⟩
    case measure=>simp [intOf]; omega
  ·have hge:¬ ((I:Int)<(l.length:Int)):=by omega
   go_wp2_with fail
   go_ret
   refine ⟨?_,hcw⟩
   rw [HC.out,show I=l.length by omega,List.drop_length]
   rfl
set_option maxHeartbeats 1000000 in
theorem H6 {F:Nat→Prop} {w:World} {v:Value} {l:List Itm} (h:Zt F w v l) (hlen:l.length≤4096) :
  Calls Tryz.prog 183 #[v] w fun e w'=>e = .returned (.bool (XF 513 l 0))∧Chg (fun _=>False) w w':=by
 obtain ⟨A,cap,rfl,hn,hcap,hat⟩:=h
 have HA:=Lib.hid hat
 have HL:=Lib.hid hlen
 clear hat hlen
 go_enter Tryz.func183,Tryz.ntmps183
 go_wp2_with fail
 go_loopw [8,3] (fun i s wr=>∃ (I:Nat) (n:Int),I≤l.length∧i = .int .i64 I∧s = .int .i64 n∧n<513∧Hid (-((I:Int)*1125899906842624)≤n)∧Hid (XF 513 l 0=XF 513 (l.drop I) n)∧Chg (fun _=>False) w wr) (fun i _ _=>l.length-(intOf i).toNat)
 case atStart=>exact ⟨0,0,Nat.zero_le _,rfl,rfl,by decide,Lib.hid (by decide),Lib.hid (by simp),Chg.refl _ _⟩
 case round =>
  obtain ⟨I,n,hI,rfl,rfl,hn64,HN,HC,hcw⟩:=hrel
  by_cases hlt:I<l.length
  ·obtain ⟨b,off,rfl,_,hb,hx⟩:=HA.out (by omega)
   obtain ⟨x,hxI⟩:∃ x,l[I]? = some x:=⟨_,List.getElem?_eq_getElem hlt⟩
   obtain ⟨⟨rv,p0,hrow⟩,p1,ha,hbb,_⟩:=hx I x hxI
   have q0:=hcw.cell p0 (fun h=>h)
   have q1:=hcw.cell p1 (fun h=>h)
   have hd1:l.drop I=x::l.drop (I+1):=by
    obtain ⟨h1,h2⟩:=List.getElem?_eq_some_iff.1 hxI
    rw [← h2]
    exact List.drop_eq_getElem_cons h1
   obtain ⟨RA,rcap,rfl,_⟩:=hrow
   have hc1:=fun w=>Jx ha hbb w
   unfold tc at hc1 q1
   have hnn:=HN.out
   have hL:=HL.out
   have hw:IntKind.i64.wrap (n+((x.a:Int)-x.b))=n+((x.a:Int)-x.b):=IntWalk.i64_in _ (by omega)
   have HD:=Lib.hid (HC.out.trans (by rw [hd1,XF]))
   have hst:=Z5
   clear hd1 hxI hx p0 p1 HC
   unfold Itm.net at HD
   obtain ⟨d,hd⟩:∃ d:Int,(x.a:Int)-x.b=d:=⟨_,rfl⟩
   rw [hd] at hc1 hw HD
   have hdl : -1125899906842624≤d:=by omega
   have HN2:=Lib.hid (show -(((I+1:Nat):Int)*1125899906842624)≤n+d by omega)
   clear HN hnn hL ha hbb hd hdl
   by_cases h0:513≤n+d
   ·have h0':512<n+d:=by omega
    go_wp2_with fail
    refine (hc1 _).mono ?_
    rintro _ w1 ⟨rfl,hc⟩
    go_wp2_with fail
    go_ret
    exact ⟨by rw [HD.out,if_pos (by omega)]; rfl,(hcw.trans ((Chg.refl _ wr).alloc _) fun _ _ h=>h).trans hc fun _ _ h=>h⟩
   ·have h0':n+d≤512:=by omega
    go_wp2_with fail
    refine (hc1 _).mono ?_
    rintro _ w1 ⟨rfl,hc⟩
    go_wp2_with fail
    go_roundw
    case rel=>exact ⟨I+1,n+d,by omega,by go_num,rfl,by omega,HN2,Lib.hid (HD.out.trans (if_neg (by omega))),(hcw.trans ((Chg.refl _ wr).alloc _) fun _ _ h=>h).trans hc fun _ _ h=>h⟩
    case measure=>simp [intOf]; omega
  ·have hge:¬ ((I:Int)<(l.length:Int)):=by omega
   go_wp2_with fail
   go_ret
   refine ⟨?_,hcw⟩
   rw [HC.out,show I=l.length by omega,List.drop_length]
   rfl
theorem KS (w:World) (x y:Value) (t:TypeId):CsK (w.alloc (.cells #[x,y] t)) (fun b=>b=w.heap.size) 2 (some ⟨w.heap.size,0,none⟩) 1 [x,y]:=by
 refine ⟨rfl,fun _=>⟨w.heap.size,0,rfl,rfl,by simp,fun j u hu => ?_⟩⟩
 have h:=heap_alloc_new w (.cells #[x,y] t)
 rw [Nat.zero_add,cell_of_row _ _ j _ t (0,0) h]
 simpa using hu
set_option maxHeartbeats 2000000 in
theorem H7 {F:Nat→Prop} {w:World} {v:Value} {l:List Itm} (h:Zt F w v l) (hlen:l.length≤4096) :
  Calls Tryz.prog 40 #[v] w (Neu w fun u w'=>Zt (new w) w' u l):=by
 obtain ⟨A,cap,rfl,hn,hcap,hat⟩:=h
 have HA:=Lib.hid hat
 have HL:=Lib.hid hlen
 clear hat hlen
 go_enter Tryz.func40,Tryz.ntmps40
 go_wp2_with fail
 go_loopw [8,3] (fun i s wr=>∃ (I:Nat) (own:Option Nat) (B:Option Addr) (c:Nat) (ps:List PI),I≤l.length∧i = .int .i64 I∧s = .slice B I c∧Hid (ps.map (·.2)=l.take I)∧Hid (QE wr 59 2 own B I c (ZC ps))∧Hid (∀ g,own=some g→w.heap.size≤g)∧Hid (∀ p∈ps,POk (fun b=>w.heap.size≤b∧own≠some b) wr p)∧Chg (fun _=>False) w wr) (fun i _ _=>l.length-(intOf i).toNat)
 case atStart=>exact ⟨0,none,none,0,[],Nat.zero_le _,rfl,rfl,Lib.hid (by simp),Lib.hid (QE.Ws _ _ _ _),Lib.hid (fun g h=>by cases h),Lib.hid (fun p h=>by cases h),Chg.refl _ _⟩
 case round =>
  obtain ⟨I,own,B,c,ps,hI,rfl,rfl,HM,HO,HN,HP,hcw⟩:=hrel
  by_cases hlt:I<l.length
  ·obtain ⟨b,off,rfl,_,hb,hx⟩:=HA.out (by omega)
   obtain ⟨x,hxI⟩:∃ x,l[I]? = some x:=⟨_,List.getElem?_eq_getElem hlt⟩
   obtain ⟨⟨rv,p0,hrow⟩,p1,ha,hbb,hrl⟩:=hx I x hxI
   have q0:=hcw.cell p0 (fun h=>h)
   have q1:=hcw.cell p1 (fun h=>h)
   have hc1:=fun w1 (hc:Chg (fun _=>False) w w1)=>KR (a:=x.a) (b:=x.b) (hrow.Zi hc) hrl
   obtain ⟨RA,rcap,rfl,_⟩:=hrow
   have HX:=Lib.hid hxI
   have HB:=Lib.hid (And.intro ha (And.intro hbb hrl))
   unfold tc at hc1 q1
   have hst:=Z5
   clear hxI hx p0 p1 ha hbb hrl
   go_wp2_with fail
   refine (hc1 _ (hcw.trans ((Chg.refl _ wr).alloc _) fun _ _ h=>h)).mono ?_
   rintro _ w1 ⟨u,rfl,⟨rv,rfl,hrv⟩,hc⟩
   have hrv':=hrv
   obtain ⟨RA',rcap',rfl,_⟩:=hrv
   have HR:=Lib.hid hrv'
   clear hrv' hc1
   have hcw2:=(hcw.trans ((Chg.refl (fun _=>False) wr).alloc _) fun _ _ h=>h).trans hc fun _ _ h=>h
   have hcw3:=((Chg.refl (fun _=>False) wr).alloc _).trans hc fun _ _ h=>h
   have H1:=Lib.hid (KS w1 (.slice RA' x.row.length rcap') (.complex .f64 (fl x.a) (fl x.b)) 59)
   have HO2:=Lib.hid (HO.out.chg (hcw3.alloc (.cells #[.slice RA' x.row.length rcap',.complex .f64 (fl x.a) (fl x.b)] 59)) fun _ _ h=>h)
   go_wp2_with (at_builtin; refine ZK rfl _ _ 45 45 rfl 59 2 40 Kh own _ I c 1 (ZC ps) [.slice RA' x.row.length rcap',.complex .f64 (fl x.a) (fl x.b)] _ rfl rfl HO2.out (Kt.slice H1.out) (by simp [Value.oneCell']) (I+1) rfl ?_ ?_ ?_)
   ·have:=HL.out; omega
   ·have:=HL.out; omega
   ·intro own' B' c' w2 hown hor hchg
    have HO3:=Lib.hid hown
    clear hown
    go_wp2_with fail
    go_roundw
    case rel =>
     have hcw4:Chg (fun _=>False) w w2:=(hcw2.alloc _).trans hchg fun i hi hg=>by have:=HN.out i hg; omega
     have hcw5:Chg (fun b=>own=some b) w1 w2:=((Chg.refl _ w1).alloc _).trans hchg fun i hi hg=>hg
     refine ⟨I+1,own',B',c',ps++[(.slice RA' x.row.length rcap',x)],by omega,by go_num,rfl,Lib.hid ?_,Lib.hid (by rw [Qe]; exact HO3.out),Lib.hid fun g hg => ?_,Lib.hid fun p hp => ?_,hcw4⟩
     ·rw [List.map_append,HM.out,List.take_add_one,HX.out]; rfl
     ·rcases hor with h0 | h0
      ·exact HN.out g (h0▸hg)
      ·rw [h0] at hg
       have:=hcw2.size
       simp at hg
       omega
     ·have hlt3:∀ b,b<w1.heap.size→own≠some b→own'≠some b:=fun b hb hne=>by
       rcases hor with h0 | h0
       ·rw [h0]; exact hne
       ·rw [h0]; simp; omega
      have hsz:=hcw.size
      have hsz3:=hcw3.size
      rcases List.mem_append.1 hp with hp | hp
      ·exact (((HP.out p hp).mono (G:=fun b=>(w.heap.size≤b∧own≠some b)∧own'≠some b) fun b hb hlt=>⟨hb,hlt3 b (by omega) hb.2⟩).chg ((hcw3.mono (T':=fun b=>own=some b) fun _ _ h=>h.elim).trans hcw5 fun _ _ h=>h) fun b hb _ he=>hb.1.2 he).mono fun b hb _=>⟨hb.1.1,hb.2⟩
      ·rw [List.mem_singleton.1 hp]
       refine ⟨?_,HB.out⟩
       refine ((HR.out.mono (G:=fun b=>(w.heap.size≤b∧own≠some b)∧own'≠some b) fun b hb hlt => ?_).chg hcw5 fun b hb _ he=>hb.1.2 he).mono fun b hb _=>⟨hb.1.1,hb.2⟩
       have hb':wr.heap.size+1≤b:=by simpa [new] using hb
       have hne:own≠some b:=fun he=>by have:=HO.out.lt he; omega
       exact ⟨⟨by omega,hne⟩,hlt3 b hlt hne⟩
    case measure=>simp [intOf]; omega
  ·have hge:¬ ((I:Int)<(l.length:Int)):=by omega
   go_wp2_with fail
   go_ret
   have e:I=l.length:=by omega
   have hm:=HM.out
   rw [e,List.take_length] at hm
   exact ⟨_,rfl,hm▸Zt.Rf (HO.out.cs.mono fun g hg _=>HN.out g hg) (by rw [e,← hm,List.length_map]) HO.out.fits HO.out.Kg fun p hp=>(HP.out p hp).mono fun b hb _=>hb.1,hcw⟩
end Go.Proofs.YtheflbaejhlboaaGreatDoor
namespace Go.Proofs.YtheflbaejhlboaaGreatDoor
open Go.RowKit
theorem Lc {a b:Nat} (ha:a≤1125899906842624) (hb:b≤1125899906842624):(FloatKind.f64.format.order (fl a) (fl b)==some .eq)=decide (a=b):=by
 rw [Yw (a:=a) (b:=b) (by omega) (by omega)]
 simp only [Int.compare_eq_ite_lt]
 rcases Nat.lt_trichotomy a b with h | h | h
 ·rw [if_pos (by omega)]
  have:a≠b:=by omega
  simp [this]
 ·rw [if_neg (by omega),if_neg (by omega)]
  simp [h]
 ·rw [if_neg (by omega),if_pos (by omega)]
  have:a≠b:=by omega
  simp [this]
theorem H8 {P:Program} {a b c d:Nat} (ha:a≤1125899906842624) (hb:b≤1125899906842624) (hc:c≤1125899906842624) (hd:d≤1125899906842624) (t:TypeId) (w:World) :
  (binOp .eql t (.complex .f64 (fl a) (fl b)) (.complex .f64 (fl c) (fl d))).run P w = .ok (.bool (decide (a=c) && decide (b=d))) w:=by
 have h1:=Lc ha hc
 have h2:=Lc hb hd
 simp [binOp,Op.complexOp,Op.Complex.cmp,Op.floatCmp,asBool,h1,h2]
theorem Xk {P:Program} {a b c d:Nat} (ha:a≤1125899906842624) (hb:b≤1125899906842624) (hc:c≤1125899906842624) (hd:d≤1125899906842624) (t:TypeId) (w:World) :
  (binOp .neq t (.complex .f64 (fl a) (fl b)) (.complex .f64 (fl c) (fl d))).run P w = .ok (.bool !(decide (a=c) && decide (b=d))) w:=by
 have h1:=Lc ha hc
 have h2:=Lc hb hd
 simp [binOp,Op.complexOp,Op.Complex.cmp,Op.floatCmp,asBool,h1,h2]
end Go.Proofs.YtheflbaejhlboaaGreatDoor
namespace Go.Proofs.YtheflbaejhlboaaGreatDoor
end Go.Proofs.YtheflbaejhlboaaGreatDoor
