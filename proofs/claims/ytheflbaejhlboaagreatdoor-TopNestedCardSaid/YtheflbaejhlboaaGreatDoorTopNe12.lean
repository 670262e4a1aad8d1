/- Lemmas for a law of confluencetop. -/
import Derived.Test.YtheflbaejhlboaaGreatDoorTopNe3
import Derived.Test.YtheflbaejhlboaaGreatDoorTopNe11
set_option linter.all false
set_option maxHeartbeats 8000000
set_option maxRecDepth 100000
namespace Go.Proofs.YtheflbaejhlboaaGreatDoor
open Tryz
section
open Go.RowKit
theorem Zim (n:Int):IntKind.u64.wrap n=n%18446744073709551616:=by
 have e:IntKind.u64.wrap n=(if (false && decide (n%2^64>=2^63))=true then n%2^64-2^64 else n%2^64):=rfl;rw [e];simp
theorem VI (n:Int):IntKind.i64.wrap n=if 9223372036854775808<=n%18446744073709551616 then n%18446744073709551616-18446744073709551616 else n%18446744073709551616:=by
 have e:IntKind.i64.wrap n=(if (true && decide (n%2^64>=2^63))=true then n%2^64-2^64 else n%2^64):=rfl;rw [e];simp
theorem Nb {n:Int} (h : -9223372036854775808<=n/\n<=9223372036854775807) (w:World):Calls prog 592 #[.int .i64 n] w fun e w'=>e = .returned (.int .u64 (n.natAbs:Int))/\Chg (fun _=>False) w w':=by
 by_cases hn:n<0
 ·have h1:IntKind.u64.wrap n=n+18446744073709551616:=by rw [Zim]; omega
  have h2:IntKind.u64.wrap (-(n+18446744073709551616))=(n.natAbs:Int):=by rw [Zim]; omega
  go_enter func592,ntmps592
  go_wp2_with fail
  go_ret
  exact ⟨rfl,Chg.refl _ _⟩
 ·have h1:IntKind.u64.wrap n=(n.natAbs:Int):=by rw [Zim]; omega
  go_enter func592,ntmps592
  go_wp2_with fail
  go_ret
  exact ⟨rfl,Chg.refl _ _⟩
def wd (z:Int):Value := .agg #[.int .i64 (z / 18446744073709551616),.int .u64 (z%18446744073709551616)]
theorem T7 {z:Int} (h : -9223372036854775808<=z/\z<=9223372036854775807) (w:World):Calls prog 556 #[wd z] w fun e w'=>e = .returned (.tuple #[.int .i64 z,.bool true])/\Chg (fun _=>False) w w':=by
 have h1:IntKind.i64.wrap (z%18446744073709551616)=z:=by rw [VI]; split <;> omega
 unfold wd;by_cases hn:z<0
 ·have h2:z / 18446744073709551616 = -1:=by omega
  have h3:¬ (0:Int)<=z:=by omega
  rw [h2]
  go_enter func556,ntmps556
  go_wp2_with fail
  go_ret2
  exact ⟨rfl,((Chg.refl _ w).alloc _)⟩
 ·have h2:z / 18446744073709551616=0:=by omega
  have h3:(0:Int)<=z:=by omega
  rw [h2]
  go_enter func556,ntmps556
  go_wp2_with fail
  go_ret2
  exact ⟨rfl,((Chg.refl _ w).alloc _)⟩
theorem OV (x y b:Nat) (hb:b<=1) (w:World):(callFunc 593 #[.int .u64 (x:Int),.int .u64 (y:Int),.int .u64 (b:Int)]).run prog w =
  .ok (.value (.tuple #[.int .u64 (((x+18446744073709551616-y-b)%18446744073709551616:Nat):Int),.int .u64 ((if x<y+b then 1 else 0:Nat):Int)])) w:=by
 rw [run_callFunc_extern func593 (by kernel_rfl) (by kernel_rfl) (by kernel_rfl) (e:=Ev.T8) (by kernel_rfl)];have:b=0\/b=1:=by omega
 rcases this with rfl | rfl <;> rfl
theorem OW (x y b:Nat) (hb:b<=1) (w:World):(callFunc 594 #[.int .u64 (x:Int),.int .u64 (y:Int),.int .u64 (b:Int)]).run prog w =
  .ok (.value (.tuple #[.int .u64 (((x+y+b:Nat):Int)%18446744073709551616),.int .u64 (((x+y+b:Nat):Int) / 18446744073709551616)])) w:=by
 rw [run_callFunc_extern func594 (by kernel_rfl) (by kernel_rfl) (by kernel_rfl) (e:=add64Entry) (by kernel_rfl),run_add64 _ _ _ (by omega) (by omega) (by omega) (by omega)];rfl
theorem T9 (x y:Nat):∃ S C:Int,S=((x:Int)+y)%18446744073709551616/\C=((x:Int)+y) / 18446744073709551616/\∀ w,(callFunc 594 #[.int .u64 (x:Int),.int .u64 (y:Int),.int .u64 0]).run prog w = .ok (.value (.tuple #[.int .u64 S,.int .u64 C])) w :=
 ⟨_,_,rfl,rfl,fun w=>(OW x y 0 (by omega) w).trans (by simp)⟩
theorem Ra (y b:Nat) (bi:Int) (hbi:bi=b) (hy:y<18446744073709551616) (hb:b<=1):∃ S C:Nat,(y+b=0/\S=0/\C=0\/0<y+b/\S=18446744073709551616-y-b/\C=1)/\∀ w,(callFunc 593 #[.int .u64 0,.int .u64 (y:Int),.int .u64 bi]).run prog w = .ok (.value (.tuple #[.int .u64 (S:Int),.int .u64 (C:Int)])) w:=by
 subst hbi;refine ⟨_,_,?_,fun w=>OV 0 y b hb w⟩;rcases Nat.eq_zero_or_pos (y+b) with h | h
 ·exact .inl ⟨h,by omega,by rw [if_neg (by omega)]⟩
 ·exact .inr ⟨h,by omega,by rw [if_pos (by omega)]⟩
theorem Nc {z a b:Int} (ha : -9223372036854775808<=a/\a<=9223372036854775807) (hb : -9223372036854775808<=b/\b<=9223372036854775807)
  (hz : -42535295865117307932921825928971026432<=z/\z<=42535295865117307932921825928971026432) (w:World) :
  Calls prog 555 #[wd z,.int .i64 a,.int .i64 b] w fun e w'=>e = .returned (wd (z+a*b))/\Chg (fun _=>False) w w':=by
 obtain ⟨A,hA⟩:∃ n,n=a.natAbs:=⟨_,rfl⟩
 obtain ⟨B,hB⟩:∃ n,n=b.natAbs:=⟨_,rfl⟩
 have hA1:A<=9223372036854775808:=by omega
 have hB1:B<=9223372036854775808:=by omega
 have sa:=Nb ha;have sb:=Nb hb;rw [<- hA] at sa;rw [<- hB] at sb;have hm:∀ w,Calls prog 403 #[.int .u64 (A:Int),.int .u64 (B:Int)] w fun e w'=>e = .returned (.tuple #[.int .u64 ((A*B / 18446744073709551616:Nat):Int),.int .u64 ((A*B%18446744073709551616:Nat):Int)])/\w'=w:=fun w=>Any.bits_Mul64 (@Ev.Zhv ⟨0,0,by decide,by decide,fun _=>0,fun _ _ _ _=>False,fun _ _ _ _=>False,fun _ _ _ h=>h.elim⟩) A B (by omega) (by omega) w;obtain ⟨X,hX⟩:∃ n,n=A*B:=⟨_,rfl⟩
 have hX1:X<=85070591730234615865843651857942052864:=by rw [hX]; exact Nat.mul_le_mul hA1 hB1
 rw [<- hX] at hm;unfold wd;have y0:((w.alloc (.cells #[.int .i64 (z / 18446744073709551616),.int .u64 (z%18446744073709551616)] 677)).alloc (.cells #[.int .i64 0,.int .u64 0] 677)).cell? ⟨w.heap.size,0,none⟩=some (.int .i64 (z / 18446744073709551616)):=by go_simp
 have y1:((w.alloc (.cells #[.int .i64 (z / 18446744073709551616),.int .u64 (z%18446744073709551616)] 677)).alloc (.cells #[.int .i64 0,.int .u64 0] 677)).cell? ⟨w.heap.size,1,none⟩=some (.int .u64 (z%18446744073709551616)):=by go_simp
 have y2:((w.alloc (.cells #[.int .i64 (z / 18446744073709551616),.int .u64 (z%18446744073709551616)] 677)).alloc (.cells #[.int .i64 0,.int .u64 0] 677)).heap[w.heap.size+1]? = some (.cells #[.int .i64 0,.int .u64 0] 677 (0,0)):=(Qw (w:=w) (Chg.refl _ _)).2;have qC:=Hd (And.intro hA (And.intro hB hX));clear hA hB hX;obtain ⟨H,hH⟩:∃ n,n=X / 18446744073709551616:=⟨_,rfl⟩
 obtain ⟨L,hL⟩:∃ n,n=X%18446744073709551616:=⟨_,rfl⟩
 rw [<- hH,<- hL] at hm;have aT:=Hd (And.intro hH hL);clear hH hL;obtain ⟨ZL,tC⟩:∃ n:Nat,z%18446744073709551616=(n:Int):=⟨(z%18446744073709551616).toNat,by omega⟩
 rw [tC] at y0 y1 y2 ⊢;have bG:=Hd tC;clear tC;by_cases ha0:a<0 <;> by_cases hb0:b<0
 ·have hp:a*b=(X:Int):=by obtain ⟨hA,hB,hX⟩:=qC.out; rw [hX,hA,hB]; simp only [Int.natCast_mul]; rw [show ((a.natAbs:Nat):Int) = -a by omega,show ((b.natAbs:Nat):Int) = -b by omega,Int.neg_mul_neg]
  obtain ⟨S,C,hS,hC,q1⟩:=T9 ZL L;have w1:IntKind.i64.wrap (H:Int)=H:=by rw [VI]; obtain ⟨hH,hL⟩:=aT.out; split <;> omega
  have w2:IntKind.i64.wrap C=C:=by rw [VI]; obtain ⟨hH,hL⟩:=aT.out; have:=bG.out; split <;> omega
  have w3:IntKind.i64.wrap (z / 18446744073709551616+H)=z / 18446744073709551616+H:=by rw [VI]; obtain ⟨hH,hL⟩:=aT.out; have:=bG.out; split <;> omega
  have w4:IntKind.i64.wrap (z / 18446744073709551616+H+C)=z / 18446744073709551616+H+C:=by rw [VI]; obtain ⟨hH,hL⟩:=aT.out; have:=bG.out; split <;> omega
  have r1:(z+a*b) / 18446744073709551616=z / 18446744073709551616+H+C:=by rw [hp]; obtain ⟨hH,hL⟩:=aT.out; have:=bG.out; omega
  have r2:(z+a*b)%18446744073709551616=S:=by rw [hp]; obtain ⟨hH,hL⟩:=aT.out; have:=bG.out; omega
  rw [r1,r2];clear r1 r2 hS hC hp
  go_enter func555,ntmps555
  go_wp2_with fail
  refine (sa _).mono ?_;rintro _ w1 ⟨rfl,h1⟩
  go_wp2_with fail
  refine (sb _).mono ?_;rintro _ w2 ⟨rfl,h2⟩
  go_wp2_with fail
  refine (hm _).mono ?_;rintro _ w3 ⟨rfl,e3⟩;subst e3;have c0:=h2.cell (h1.cell y0 fun h=>h) fun h=>h;have c1:=h2.cell (h1.cell y1 fun h=>h) fun h=>h;obtain ⟨c2,c3,c4,c5⟩:=QX (h2.heap (h1.heap y2 fun h=>h) fun h=>h)
  go_wp2_with fail
  (try simp only [Exit.inBlock,Exit.then])
  refine bodyPost_ret (v := .agg #[.int .i64 (z / 18446744073709551616+H+C),.int .u64 S]) ?_ rfl ?_
  ·simp only [results,show Tryz.f555.results = #[.cell 6 677] from rfl];go_simp
  ·refine ⟨rfl,?_⟩;have hA:=((((Chg.refl (fun _=>False) w).alloc (.cells #[.int .i64 (z / 18446744073709551616),.int .u64 ZL] 677)).alloc (.cells #[.int .i64 0,.int .u64 0] 677)).trans h1 fun _ _ h=>h).trans h2 fun _ _ h=>h;exact hA.trans (Chg.Z5 (T:=fun k=>k=w.heap.size+1) (Chg.Z5 (T:=fun k=>k=w.heap.size+1) (Chg.refl _ _) (D:=w.heap.size+1) rfl 0 _) (D:=w.heap.size+1) rfl 1 _) fun i hi e=>by omega
 ·have hp:a*b = -(X:Int):=by obtain ⟨hA,hB,hX⟩:=qC.out; rw [hX,hA,hB]; simp only [Int.natCast_mul]; rw [show ((a.natAbs:Nat):Int) = -a by omega,show ((b.natAbs:Nat):Int)=b by omega,Int.neg_mul,Int.neg_neg]
  obtain ⟨S1,C1,hs1,p1⟩:=Ra L 0 0 rfl (by obtain ⟨hH,hL⟩:=aT.out; omega) (by omega);have tF:C1<=1:=by omega
  obtain ⟨S2,C2,hs2,p2⟩:=Ra H C1 C1 rfl (by obtain ⟨hH,hL⟩:=aT.out; omega) tF;obtain ⟨S,C,hS,hC,q1⟩:=T9 ZL S1;have w1:IntKind.i64.wrap (S2:Int) = -(H:Int)-C1:=by rw [VI]; obtain ⟨hH,hL⟩:=aT.out; have:=bG.out; split <;> omega
  have w2:IntKind.i64.wrap C=C:=by rw [VI]; obtain ⟨hH,hL⟩:=aT.out; have:=bG.out; split <;> omega
  have w3:IntKind.i64.wrap (z / 18446744073709551616+(-(H:Int)-C1))=z / 18446744073709551616+(-(H:Int)-C1):=by rw [VI]; obtain ⟨hH,hL⟩:=aT.out; have:=bG.out; split <;> omega
  have w4:IntKind.i64.wrap (z / 18446744073709551616+(-(H:Int)-C1)+C)=z / 18446744073709551616+(-(H:Int)-C1)+C:=by rw [VI]; obtain ⟨hH,hL⟩:=aT.out; have:=bG.out; split <;> omega
  have r1:(z+a*b) / 18446744073709551616=z / 18446744073709551616+(-(H:Int)-C1)+C:=by rw [hp]; obtain ⟨hH,hL⟩:=aT.out; have:=bG.out; omega
  have r2:(z+a*b)%18446744073709551616=S:=by rw [hp]; obtain ⟨hH,hL⟩:=aT.out; have:=bG.out; omega
  rw [r1,r2];clear r1 r2 hS hC hp hs1 hs2
  go_enter func555,ntmps555
  go_wp2_with fail
  refine (sa _).mono ?_;rintro _ w1 ⟨rfl,h1⟩
  go_wp2_with fail
  refine (sb _).mono ?_;rintro _ w2 ⟨rfl,h2⟩
  go_wp2_with fail
  refine (hm _).mono ?_;rintro _ w3 ⟨rfl,e3⟩;subst e3;have c0:=h2.cell (h1.cell y0 fun h=>h) fun h=>h;have c1:=h2.cell (h1.cell y1 fun h=>h) fun h=>h;obtain ⟨c2,c3,c4,c5⟩:=QX (h2.heap (h1.heap y2 fun h=>h) fun h=>h)
  go_wp2_with fail
  rotate_left
  ·exfalso;simp only [Bool.not_eq_false',decide_eq_true_eq] at *;omega
  (try simp only [Exit.inBlock,Exit.then])
  refine bodyPost_ret (v := .agg #[.int .i64 (z / 18446744073709551616+(-(H:Int)-C1)+C),.int .u64 S]) ?_ rfl ?_
  ·simp only [results,show Tryz.f555.results = #[.cell 6 677] from rfl];go_simp
  ·refine ⟨rfl,?_⟩;have hA:=((((Chg.refl (fun _=>False) w).alloc (.cells #[.int .i64 (z / 18446744073709551616),.int .u64 ZL] 677)).alloc (.cells #[.int .i64 0,.int .u64 0] 677)).trans h1 fun _ _ h=>h).trans h2 fun _ _ h=>h;exact hA.trans (Chg.Z5 (T:=fun k=>k=w.heap.size+1) (Chg.Z5 (T:=fun k=>k=w.heap.size+1) (Chg.refl _ _) (D:=w.heap.size+1) rfl 0 _) (D:=w.heap.size+1) rfl 1 _) fun i hi e=>by omega
 ·have hp:a*b = -(X:Int):=by obtain ⟨hA,hB,hX⟩:=qC.out; rw [hX,hA,hB]; simp only [Int.natCast_mul]; rw [show ((a.natAbs:Nat):Int)=a by omega,show ((b.natAbs:Nat):Int) = -b by omega,Int.mul_neg,Int.neg_neg]
  obtain ⟨S1,C1,hs1,p1⟩:=Ra L 0 0 rfl (by obtain ⟨hH,hL⟩:=aT.out; omega) (by omega);have tF:C1<=1:=by omega
  obtain ⟨S2,C2,hs2,p2⟩:=Ra H C1 C1 rfl (by obtain ⟨hH,hL⟩:=aT.out; omega) tF;obtain ⟨S,C,hS,hC,q1⟩:=T9 ZL S1;have w1:IntKind.i64.wrap (S2:Int) = -(H:Int)-C1:=by rw [VI]; obtain ⟨hH,hL⟩:=aT.out; have:=bG.out; split <;> omega
  have w2:IntKind.i64.wrap C=C:=by rw [VI]; obtain ⟨hH,hL⟩:=aT.out; have:=bG.out; split <;> omega
  have w3:IntKind.i64.wrap (z / 18446744073709551616+(-(H:Int)-C1))=z / 18446744073709551616+(-(H:Int)-C1):=by rw [VI]; obtain ⟨hH,hL⟩:=aT.out; have:=bG.out; split <;> omega
  have w4:IntKind.i64.wrap (z / 18446744073709551616+(-(H:Int)-C1)+C)=z / 18446744073709551616+(-(H:Int)-C1)+C:=by rw [VI]; obtain ⟨hH,hL⟩:=aT.out; have:=bG.out; split <;> omega
  have r1:(z+a*b) / 18446744073709551616=z / 18446744073709551616+(-(H:Int)-C1)+C:=by rw [hp]; obtain ⟨hH,hL⟩:=aT.out; have:=bG.out; omega
  have r2:(z+a*b)%18446744073709551616=S:=by rw [hp]; obtain ⟨hH,hL⟩:=aT.out; have:=bG.out; omega
  rw [r1,r2];clear r1 r2 hS hC hp hs1 hs2
  go_enter func555,ntmps555
  go_wp2_with fail
  refine (sa _).mono ?_;rintro _ w1 ⟨rfl,h1⟩
  go_wp2_with fail
  refine (sb _).mono ?_;rintro _ w2 ⟨rfl,h2⟩
  go_wp2_with fail
  refine (hm _).mono ?_;rintro _ w3 ⟨rfl,e3⟩;subst e3;have c0:=h2.cell (h1.cell y0 fun h=>h) fun h=>h;have c1:=h2.cell (h1.cell y1 fun h=>h) fun h=>h;obtain ⟨c2,c3,c4,c5⟩:=QX (h2.heap (h1.heap y2 fun h=>h) fun h=>h)
  go_wp2_with fail
  rotate_left
  ·exfalso;simp only [Bool.not_eq_false',decide_eq_true_eq] at *;omega
  (try simp only [Exit.inBlock,Exit.then])
  refine bodyPost_ret (v := .agg #[.int .i64 (z / 18446744073709551616+(-(H:Int)-C1)+C),.int .u64 S]) ?_ rfl ?_
  ·simp only [results,show Tryz.f555.results = #[.cell 6 677] from rfl];go_simp
  ·refine ⟨rfl,?_⟩;have hA:=((((Chg.refl (fun _=>False) w).alloc (.cells #[.int .i64 (z / 18446744073709551616),.int .u64 ZL] 677)).alloc (.cells #[.int .i64 0,.int .u64 0] 677)).trans h1 fun _ _ h=>h).trans h2 fun _ _ h=>h;exact hA.trans (Chg.Z5 (T:=fun k=>k=w.heap.size+1) (Chg.Z5 (T:=fun k=>k=w.heap.size+1) (Chg.refl _ _) (D:=w.heap.size+1) rfl 0 _) (D:=w.heap.size+1) rfl 1 _) fun i hi e=>by omega
 ·have hp:a*b=(X:Int):=by obtain ⟨hA,hB,hX⟩:=qC.out; rw [hX,hA,hB]; simp only [Int.natCast_mul]; rw [show ((a.natAbs:Nat):Int)=a by omega,show ((b.natAbs:Nat):Int)=b by omega]
  obtain ⟨S,C,hS,hC,q1⟩:=T9 ZL L;have w1:IntKind.i64.wrap (H:Int)=H:=by rw [VI]; obtain ⟨hH,hL⟩:=aT.out; split <;> omega
  have w2:IntKind.i64.wrap C=C:=by rw [VI]; obtain ⟨hH,hL⟩:=aT.out; have:=bG.out; split <;> omega
  have w3:IntKind.i64.wrap (z / 18446744073709551616+H)=z / 18446744073709551616+H:=by rw [VI]; obtain ⟨hH,hL⟩:=aT.out; have:=bG.out; split <;> omega
  have w4:IntKind.i64.wrap (z / 18446744073709551616+H+C)=z / 18446744073709551616+H+C:=by rw [VI]; obtain ⟨hH,hL⟩:=aT.out; have:=bG.out; split <;> omega
  have r1:(z+a*b) / 18446744073709551616=z / 18446744073709551616+H+C:=by rw [hp]; obtain ⟨hH,hL⟩:=aT.out; have:=bG.out; omega
  have r2:(z+a*b)%18446744073709551616=S:=by rw [hp]; obtain ⟨hH,hL⟩:=aT.out; have:=bG.out; omega
  rw [r1,r2];clear r1 r2 hS hC hp
  go_enter func555,ntmps555
  go_wp2_with fail
  refine (sa _).mono ?_;rintro _ w1 ⟨rfl,h1⟩
  go_wp2_with fail
  refine (sb _).mono ?_;rintro _ w2 ⟨rfl,h2⟩
  go_wp2_with fail
  refine (hm _).mono ?_;rintro _ w3 ⟨rfl,e3⟩;subst e3;have c0:=h2.cell (h1.cell y0 fun h=>h) fun h=>h;have c1:=h2.cell (h1.cell y1 fun h=>h) fun h=>h;obtain ⟨c2,c3,c4,c5⟩:=QX (h2.heap (h1.heap y2 fun h=>h) fun h=>h)
  go_wp2_with fail
  ·exfalso;have e1:decide (a<0)=false:=decide_eq_false (by omega);have e2:decide (b<0)=false:=decide_eq_false (by omega);have hh:(!decide (a<0)==decide (b<0))=true:=by assumption
   rw [e1,e2] at hh;cases hh
  (try simp only [Exit.inBlock,Exit.then])
  refine bodyPost_ret (v := .agg #[.int .i64 (z / 18446744073709551616+H+C),.int .u64 S]) ?_ rfl ?_
  ·simp only [results,show Tryz.f555.results = #[.cell 6 677] from rfl];go_simp
  ·refine ⟨rfl,?_⟩;have hA:=((((Chg.refl (fun _=>False) w).alloc (.cells #[.int .i64 (z / 18446744073709551616),.int .u64 ZL] 677)).alloc (.cells #[.int .i64 0,.int .u64 0] 677)).trans h1 fun _ _ h=>h).trans h2 fun _ _ h=>h;exact hA.trans (Chg.Z5 (T:=fun k=>k=w.heap.size+1) (Chg.Z5 (T:=fun k=>k=w.heap.size+1) (Chg.refl _ _) (D:=w.heap.size+1) rfl 0 _) (D:=w.heap.size+1) rfl 1 _) fun i hi e=>by omega
end
section
open Go.RowKit
def Zq:List Itm->Int
 | []=>0
 | x::l=>x.net+Zq l
theorem Wn (l m:List Itm):Zq (l++m)=Zq l+Zq m:=by
 induction l with
 | nil=>simp [Zq]
 | cons x l ih=>simp only [List.cons_append,Zq,ih]; omega
theorem Nd (n:Int) (w:World):Calls prog 483 #[.int .i64 n] w fun e w'=>e = .returned (.agg #[.int .i64 1,.int .i64 n,.string ⟨#[]⟩])/\Chg (fun _=>False) w w':=by
 go_enter func483,ntmps483
 go_wp2_with fail
 refine bodyPost_ret (v := .agg #[.int .i64 1,.int .i64 n,.string ⟨#[]⟩]) ?_ rfl ?_
 ·simp only [results,show Tryz.f483.results = #[.cell 2 55] from rfl];go_simp
 ·exact ⟨rfl,(Chg.refl _ w).alloc _⟩
theorem XD {w:World} {B:Nat} {x y z:Value} {t:TypeId} (h:w.heap[B]? = some (.cells #[x,y,z] t (0,0))) :
  w.cell? ⟨B,0,none⟩=some x/\w.cell? ⟨B,1,none⟩=some y/\w.cell? ⟨B,2,none⟩=some z/\w.frozen? ⟨B,0,none⟩=false/\w.frozen? ⟨B,1,none⟩=false/\w.frozen? ⟨B,2,none⟩=false :=
 ⟨by rw [cell_of_row w B 0 _ t (0,0) h]; rfl,by rw [cell_of_row w B 1 _ t (0,0) h]; rfl,by rw [cell_of_row w B 2 _ t (0,0) h]; rfl,frozen_of_row w B 0 _ t h,frozen_of_row w B 1 _ t h,frozen_of_row w B 2 _ t h⟩
theorem Rb {w:World} (o0 o1 o2 o3:Obj):∃ w4,w4=(((w.alloc o0).alloc o1).alloc o2).alloc o3/\Chg (fun _=>False) w w4/\w4.heap.size=w.heap.size+4/\w4.heap[w.heap.size]? = some o0/\w4.heap[w.heap.size+1]? = some o1/\w4.heap[w.heap.size+1+1]? = some o2/\w4.heap[w.heap.size+1+1+1]? = some o3:=by
 have e:((((w.alloc o0).alloc o1).alloc o2).alloc o3).heap=(((w.heap.push o0).push o1).push o2).push o3:=rfl;refine ⟨_,rfl,((((Chg.refl _ w).alloc _).alloc _).alloc _).alloc _,?_,?_,?_,?_,?_⟩ <;> rw [e]
 ·simp
 ·simp [Array.getElem?_push];rw [if_neg (by omega),if_neg (by omega)]
 ·rw [Array.getElem?_push,if_neg (by simp only [Array.size_push]; omega),Array.getElem?_push,if_neg (by simp only [Array.size_push]; omega),Array.getElem?_push,if_pos (by simp only [Array.size_push])]
 ·rw [Array.getElem?_push,if_neg (by simp),Array.getElem?_push,if_pos (by simp)]
 ·rw [Array.getElem?_push,if_pos (by simp)]
theorem ZkA {w:World} {B:Nat} {x y u v:Value} {t:TypeId} (h:w.heap[B]? = some (.cells #[x,y] t (0,0))):((w.setCell ⟨B,0,none⟩ u).setCell ⟨B,1,none⟩ v).heap[B]? = some (.cells #[u,v] t (0,0)) :=
 heap_setCell_same _ B 1 _ _ v (heap_setCell_same w B 0 _ _ u h)
theorem Cm {F:Nat->Prop} {w:World} {v:Value} {l:List Itm} (iR:Int) (h:Zp F w v l) (hlen:l.length<=4096) (hsm:∀ n,n<=l.length -> -1000000<=Zq (l.take n)/\Zq (l.take n)<=1000000) :
  Calls prog 490 #[.agg #[.string ⟨#[99,111,117,110,116]⟩,.int .i64 iR],v] w fun e w'=>e = .returned (.tuple #[.agg #[.int .i64 1,.int .i64 (Zq l),.string ⟨#[]⟩],.bool true])/\Chg (fun _=>False) w w':=by
 obtain ⟨A,cap,rfl,hn,hcap,hat⟩:=h;have HA:=Hd hat;have HL:=Hd hlen;have HS:=Hd hsm;clear hat hlen hsm
 go_enter func490,ntmps490
 go_wp2_with fail
 obtain ⟨w4,hw4,hc4,bW,b0,b1,b2,b3⟩:=Rb (w:=w) (.cells #[.string ⟨#[99,111,117,110,116]⟩,.int .i64 iR] 405) (.cells #[.int .i64 0,.int .i64 0,.string ⟨#[]⟩] 55) (.cells #[.int .i64 0,.int .u64 0] 677) (.cells #[.int .i64 0,.int .i64 0,.string ⟨#[]⟩] 55);rw [<- hw4];clear hw4;obtain ⟨Z,hZ⟩:∃ x,x=w.heap.size:=⟨_,rfl⟩
 rw [<- hZ] at b0 b1 b2 b3 bW ⊢;have HB0:=Hd b0;have HB1:=Hd b1;have HB2:=Hd b2;have HZ:=Hd (And.intro hZ bW);clear b0 b1 b2 b3 hZ bW
 go_loopw [16] (fun i wr=>∃ I:Nat,I<=l.length/\i = .int .i64 I/\Hid (wr.heap[Z+1+1]? = some (.cells #[.int .i64 (Zq (l.take I) / 18446744073709551616),.int .u64 (Zq (l.take I)%18446744073709551616)] 677 (0,0)))/\Chg (fun b=>b=Z+1+1) w4 wr) (fun i _=>l.length-(intOf i).toNat)
 case atStart=>exact ⟨0,Nat.zero_le _,rfl,HB2,Chg.refl _ _⟩
 case round =>
  obtain ⟨I,hI,rfl,HW,hcw⟩:=hrel;have f0:=cell_of_row _ _ 0 _ _ _ (hcw.heap HB0.out fun h=>by omega);simp only [List.getElem?_toArray,List.getElem?_cons_zero] at f0;by_cases hlt:I<l.length
  ·obtain ⟨b,off,rfl,_,hb,hx⟩:=HA.out (by omega);obtain ⟨x,ag⟩:∃ x,l[I]? = some x:=⟨_,List.getElem?_eq_getElem hlt⟩
   obtain ⟨⟨rv,p0,hrow⟩,p1,ha,hbb,_⟩:=hx I x ag;have hbz:b≠Z+1+1:=by have:=HZ.out.1; omega
   have q0:=hcw.cell (hc4.cell p0 fun h=>h) hbz;have q1:=hcw.cell (hc4.cell p1 fun h=>h) hbz;obtain ⟨RA,aa,rfl,_⟩:=hrow;have hc1:=fun w=>QW ha hbb w;unfold tc at hc1 q1;have hst:=ZE;obtain ⟨d,hd⟩:∃ d:Int,(x.a:Int)-x.b=d:=⟨_,rfl⟩
   rw [hd] at hc1;have hdl : -1125899906842624<=d/\d<=1125899906842624:=by omega
   have hs1:=HS.out I hI;obtain ⟨V,hV⟩:∃ V,V=Zq (l.take I):=⟨_,rfl⟩
   rw [<- hV] at hs1 HW;have had:=fun W=>Nc (z:=V) (a:=d) (b:=1) (by omega) (by omega) (by omega) W;rw [Int.mul_one] at had;unfold wd at had;have HX:=Hd (And.intro ag (And.intro hd hV));have HDL:=Hd (And.intro hdl hs1);clear hx p0 p1 ag hd hV hdl hs1 ha hbb hbz
   go_wp2_with fail
   refine (hc1 _).mono ?_;rintro _ w1 ⟨rfl,hc⟩;have hcA:=((Chg.refl (fun _=>False) wr).alloc (.cells #[.slice RA x.row.length aa,.complex .f64 (fl x.a) (fl x.b)] 59)).trans hc fun _ _ h=>h;have f1:=hcA.cell f0 fun h=>h;have HW1:=Hd (hcA.heap HW.out fun h=>h);obtain ⟨g0,g1,g2,g3⟩:=QX HW1.out
   go_wp2_with fail
   refine (had _).mono ?_;rintro _ w2 ⟨rfl,hc2⟩;have HW2:=Hd (hc2.heap HW1.out fun h=>h);obtain ⟨k0,k1,k2,k3⟩:=QX HW2.out;clear g0 g1 g2 g3
   go_wp2_with fail
   go_roundw
   case rel =>
    refine ⟨I+1,by omega,by go_num,Hd ?_,hcw.trans (((hcA.trans hc2 fun _ _ h=>h).mono fun _ _ h=>h.elim).trans (Chg.Z5 (T:=fun k=>k=Z+1+1) (Chg.Z5 (T:=fun k=>k=Z+1+1) (Chg.refl _ _) (D:=Z+1+1) rfl 0 _) (D:=Z+1+1) rfl 1 _) fun _ _ h=>h) fun _ _ h=>h⟩;obtain ⟨ag,hd,hV⟩:=HX.out;rw [ZkA HW2.out,List.take_add_one,ag,Wn,<- hV];simp only [Option.toList_some,Zq,Int.add_zero,Itm.net,hd]
   case measure=>simp [intOf]; omega
  ·have eI:I=l.length:=by omega
   subst eI;rw [List.take_length] at HW;have hs1:=HS.out l.length (Nat.le_refl _);rw [List.take_length] at hs1;have hsm:=fun W=>T7 (z:=Zq l) (by omega) W;obtain ⟨V,hV⟩:∃ V,V=Zq l:=⟨_,rfl⟩
   rw [<- hV] at hsm HW;have HV:=Hd hV;unfold wd at hsm;clear hs1 hV;obtain ⟨g0,g1,g2,g3⟩:=QX HW.out;have jZ:=fun W=>Nd V W
   go_wp2_with fail
   refine (hsm _).mono ?_;rintro _ w1 ⟨rfl,hc⟩
   go_wp2_with fail
   refine (jZ _).mono ?_;rintro _ w2 ⟨rfl,hc2⟩;obtain ⟨k0,k1,k2,k3,k4,k5⟩:=XD (hc2.heap (hc.heap (hcw.heap HB1.out fun h=>by omega) fun h=>h) fun h=>h)
   go_wp2_with fail
   refine bodyPost_ret (v := .tuple #[.agg #[.int .i64 1,.int .i64 V,.string ⟨#[]⟩],.bool true]) ?_ rfl ?_
   ·simp only [results,show Tryz.f490.results = #[.cell 4 55,.tmp 5] from rfl];go_simp
   ·refine ⟨by rw [HV.out],?_⟩;obtain ⟨hZ,bW⟩:=HZ.out;have hA:=((hc4.trans hcw fun i hi e=>by omega).trans hc fun _ _ h=>h).trans hc2 fun _ _ h=>h;exact hA.trans (Chg.Z5 (T:=fun k=>k=Z+1) (Chg.Z5 (T:=fun k=>k=Z+1) (Chg.Z5 (T:=fun k=>k=Z+1) (Chg.refl _ _) (D:=Z+1) rfl 0 _) (D:=Z+1) rfl 1 _) (D:=Z+1) rfl 2 _) fun i hi e=>by omega
end
section
open Go.RowKit
def bst (lt:Vl->Vl->Bool):List Vl->Vl
 | []=>⟨0,0,[]⟩
 | x::l=>l.foldl (fun b v=>if lt v b then v else b) x
theorem Cn (lt:Vl->Vl->Bool) (l:List Vl) (v:Vl):bst lt (l++[v])=if l=[] then v else if lt v (bst lt l) then v else bst lt l:=by
 cases l with
 | nil=>rfl
 | cons x l =>
  simp only [List.cons_append,bst,List.foldl_append,List.foldl_cons,List.foldl_nil,reduceCtorEq,if_false];rfl
def QZ (c:Nat) (l:List Itm):List Vl:=l.map fun x=>x.row[c]?.getD ⟨0,0,[]⟩
theorem Nf (c:Nat) (l:List Itm) (x:Itm):QZ c (l++[x])=QZ c l++[x.row[c]?.getD ⟨0,0,[]⟩]:=by simp [QZ]
theorem Si {c:Nat} {l:List Itm}:QZ c l=[]↔l=[]:=by simp [QZ]
theorem Co {lt:Vl->Vl->Bool} {m:Nat} {l:List Vl} (h:∀ v∈l,v.s.length<=m):(bst lt l).s.length<=m:=by
 cases l with
 | nil=>simp [bst]
 | cons x l =>
  have key:∀ (l:List Vl) (b:Vl),b.s.length<=m->(∀ v∈l,v.s.length<=m)->(l.foldl (fun b v=>if lt v b then v else b) b).s.length<=m:=by
   intro l
   induction l with
   | nil=>intro b h1 _; exact h1
   | cons v l ih =>
    intro b h1 h2;refine ih (if lt v b then v else b) ?_ fun u hu=>h2 u (List.mem_cons_of_mem _ hu);split
    ·exact h2 v List.mem_cons_self
    ·exact h1
  exact key l x (h x List.mem_cons_self) fun v hv=>h v (List.mem_cons_of_mem _ hv)
theorem mo {a w:World} (h:Chg (fun _=>False) a w) (D:Nat) (u v q:Value):Chg (fun k=>k=D) a (((w.setCell ⟨D,0,none⟩ u).setCell ⟨D,1,none⟩ v).setCell ⟨D,2,none⟩ q) :=
 Chg.Z5 (T:=fun k=>k=D) (Chg.Z5 (T:=fun k=>k=D) (Chg.Z5 (T:=fun k=>k=D) (h.mono fun _ _ h=>h.elim) (D:=D) rfl 0 _) (D:=D) rfl 1 _) (D:=D) rfl 2 _
theorem ZfO {w:World} {B:Nat} {x y z u v q:Value} {t:TypeId} (h:w.heap[B]? = some (.cells #[x,y,z] t (0,0))):(((w.setCell ⟨B,0,none⟩ u).setCell ⟨B,1,none⟩ v).setCell ⟨B,2,none⟩ q).heap[B]? = some (.cells #[u,v,q] t (0,0)) :=
 heap_setCell_same _ B 2 _ _ q (heap_setCell_same _ B 1 _ _ v (heap_setCell_same w B 0 _ _ u h))
theorem Zbi {F:Nat->Prop} {w:World} {v:Value} {l:List Itm} {c:Nat} (h:Zp F w v l) (hlen:l.length<=4096) (hrow:∀ x∈l,c<x.row.length) (hstr:∀ x∈l,∀ v∈x.row,v.s.length<=9223372036854775807) :
  Calls prog 490 #[.agg #[.string ⟨#[109,105,110]⟩,.int .i64 (c:Int)],v] w fun e w'=>e = .returned (.tuple #[(bst Vl.less (QZ c l)).val,.bool true])/\Chg (fun _=>False) w w':=by
 obtain ⟨A,cap,rfl,hn,hcap,hat⟩:=h;have HA:=Hd hat;have HL:=Hd hlen;have HS:=Hd (And.intro hrow hstr);clear hat hlen hrow hstr
 go_enter func490,ntmps490
 go_wp2_with fail
 obtain ⟨w4,hw4,hc4,bW,b0,b1,b2,b3⟩:=Rb (w:=w) (.cells #[.string ⟨#[109,105,110]⟩,.int .i64 (c:Int)] 405) (.cells #[.int .i64 0,.int .i64 0,.string ⟨#[]⟩] 55) (.cells #[.int .i64 0,.int .u64 0] 677) (.cells #[.int .i64 0,.int .i64 0,.string ⟨#[]⟩] 55);rw [<- hw4];clear hw4;obtain ⟨Z,hZ⟩:∃ x,x=w.heap.size:=⟨_,rfl⟩
 rw [<- hZ] at b0 b1 b2 b3 bW ⊢;have HB0:=Hd b0;have HB1:=Hd b1;have HB3:=Hd b3;have HZ:=Hd (And.intro hZ bW);clear b0 b1 b2 b3 hZ bW
 go_loopw [16] (fun i wr=>∃ I:Nat,I<=l.length/\i = .int .i64 I/\Hid (wr.heap[Z+1+1+1]? = some (.cells #[.int .i64 (bst Vl.less (QZ c (l.take I))).k,.int .i64 (bst Vl.less (QZ c (l.take I))).n,.string (str (bst Vl.less (QZ c (l.take I))).s)] 55 (0,0)))/\Chg (fun b=>b=Z+1+1+1) w4 wr) (fun i _=>l.length-(intOf i).toNat)
 case atStart=>exact ⟨0,Nat.zero_le _,rfl,HB3,Chg.refl _ _⟩
 case round =>
  obtain ⟨I,hI,rfl,HW,hcw⟩:=hrel;obtain ⟨f0,e0,_,_⟩:=QX (hcw.heap HB0.out fun h=>by omega);by_cases hlt:I<l.length
  ·obtain ⟨b,off,rfl,_,hb,hx⟩:=HA.out (by omega);obtain ⟨x,ag⟩:∃ x,l[I]? = some x:=⟨_,List.getElem?_eq_getElem hlt⟩
   obtain ⟨⟨rv,p0,hrow⟩,p1,ha,hbb,_⟩:=hx I x ag;have hxm:=List.mem_of_getElem? ag;have hcl:=HS.out.1 x hxm;obtain ⟨vv,hvv⟩:∃ v,x.row[c]? = some v:=⟨_,List.getElem?_eq_getElem hcl⟩
   have hvs:=HS.out.2 x hxm vv (List.mem_of_getElem? hvv);have hbz:b≠Z+1+1+1:=by have:=HZ.out.1; omega
   have q0:=hcw.cell (hc4.cell p0 fun h=>h) hbz;have q1:=hcw.cell (hc4.cell p1 fun h=>h) hbz;obtain ⟨RA,aa,rfl,hrn,hrc,dB⟩:=hrow;obtain ⟨rb,roff,rfl,_,hrb,hrx⟩:=dB (by omega);obtain ⟨v0,v1,v2,_⟩:=hrx c vv hvv;have hrz:rb≠Z+1+1+1:=by have:=HZ.out.1; omega
   have r0:=hcw.cell (hc4.cell v0 fun h=>h) hrz;have r1:=hcw.cell (hc4.cell v1 fun h=>h) hrz;have r2:=hcw.cell (hc4.cell v2 fun h=>h) hrz;have hc1:=fun w=>QW ha hbb w;unfold tc at hc1 q1;have hst:=ZE;obtain ⟨V,hV⟩:∃ V,V=bst Vl.less (QZ c (l.take I)):=⟨_,rfl⟩
   have nL:V.s.length<=9223372036854775807:=by
    rw [hV];refine Co fun v hv => ?_;simp only [QZ,List.mem_map] at hv;obtain ⟨y,hy,rfl⟩:=hv;have hym:=List.mem_of_mem_take hy;rw [List.getElem?_eq_getElem (HS.out.1 y hym)];exact HS.out.2 y hym _ (List.getElem_mem _)
   rw [<- hV] at HW;have hless:=fun W=>KW vv V W hvs nL;unfold Vl.val at hless
   have hnx:bst Vl.less (QZ c (l.take (I+1)))=if I=0 then vv else if Vl.less vv V then vv else V:=by
    rw [List.take_add_one,ag];simp only [Option.toList_some];rw [Nf,hvv,Cn,hV];simp only [Option.getD_some,Si]
    have:l.take I=[]↔I=0:=by
     constructor
     ·intro h;have:=congrArg List.length h;rw [List.length_take,List.length_nil] at this;omega
     ·rintro rfl; rfl
    simp only [this]
   have iT:=Hd hnx;obtain ⟨RL,jy⟩:∃ n,n=x.row.length:=⟨_,rfl⟩
   rw [<- jy] at q0 hcl hrn;obtain ⟨d,hd⟩:∃ d:Int,(x.a:Int)-x.b=d:=⟨_,rfl⟩
   rw [hd] at hc1;have nM:(c:Int)<(RL:Int):=by omega
   clear hx p0 p1 ag hd hV nL hvs ha hbb hbz hnx hvv hxm dB hrx v0 v1 v2 hrz hrb hb jy hrn
   go_wp2_with fail
   refine (hc1 _).mono ?_;rintro _ w1 ⟨rfl,hc⟩;have hcA:=((Chg.refl (fun _=>False) wr).alloc (.cells #[.slice (some ⟨rb,roff,none⟩) RL aa,.complex .f64 (fl x.a) (fl x.b)] 59)).trans hc fun _ _ h=>h;have jA:((wr.alloc (.cells #[.slice (some ⟨rb,roff,none⟩) RL aa,.complex .f64 (fl x.a) (fl x.b)] 59))).cell? ⟨wr.heap.size,0,none⟩=some (.slice (some ⟨rb,roff,none⟩) RL aa):=by go_simp
   have qA:=hc.cell jA fun h=>h;have f1:=hcA.cell f0 fun h=>h;have f2:=hcA.cell e0 fun h=>h;have s0:=hcA.cell r0 fun h=>h;have s1:=hcA.cell r1 fun h=>h;have s2:=hcA.cell r2 fun h=>h;have HW1:=Hd (hcA.heap HW.out fun h=>h);obtain ⟨g0,g1,g2,g3,g4,g5⟩:=XD HW1.out;clear r0 r1 r2 f0 e0 q0 q1 jA;have hzl:Z<w1.heap.size/\Z+1+1+1<w1.heap.size:=by have h1:=HZ.out.2; have h2:=hcw.size; have h3:=hcA.size; omega
   obtain ⟨nO,nP⟩:=hzl;by_cases hI0:I=0
   ·subst hI0
    go_wp2_with fail
    go_roundw
    case rel =>
     have hnx:=iT.out;simp only [if_true,Nat.zero_add] at hnx;refine ⟨1,by omega,rfl,Hd ?_,hcw.trans ((mo hcA (Z+1+1+1) _ _ _).alloc _) fun _ _ h=>h⟩;rw [hnx];exact ((Chg.refl (fun _=>False) _).alloc (.cells #[.int .i64 vv.k,.int .i64 vv.n,.string (str vv.s)] 55)).heap (ZfO HW1.out) fun h=>h
    case measure=>simp [intOf]; omega
   ·have hI1:¬ (I:Int)=0:=by omega
    go_wp2_with fail
    refine (hless _).mono ?_;rintro _ w2 ⟨rfl,hc2⟩;have hcB:=((Chg.refl (fun _=>False) w1).alloc (.cells #[.int .i64 vv.k,.int .i64 vv.n,.string (str vv.s)] 55)).trans hc2 fun _ _ h=>h;have f3:=hcB.cell f1 fun h=>h;have HW2:=Hd (hcB.heap HW1.out fun h=>h);have hnw:(w1.alloc (.cells #[.int .i64 vv.k,.int .i64 vv.n,.string (str vv.s)] 55)).heap[w1.heap.size]? = some (.cells #[.int .i64 vv.k,.int .i64 vv.n,.string (str vv.s)] 55):=Array.getElem?_push_size;obtain ⟨m0,m1,m2,_,_,_⟩:=XD (hc2.heap hnw fun h=>h);have hnx:=iT.out;rw [if_neg hI0] at hnx;clear f1 f2 g0 g1 g2 g3 g4 g5 s0 s1 s2 qA;obtain ⟨g0,g1,g2,g3,g4,g5⟩:=XD HW2.out;by_cases hbet:vv.less V=true
    ·rw [if_pos hbet] at hnx;rw [hbet];have dS:=Hd hnx;clear hnx
     go_wp2_with fail
     go_roundw
     case rel =>
      refine ⟨I+1,by omega,by go_num,Hd ?_,hcw.trans (mo (hcA.trans hcB fun _ _ h=>h) (Z+1+1+1) _ _ _) fun _ _ h=>h⟩;rw [dS.out];exact ZfO HW2.out
     case measure=>simp [intOf]; omega
    ·rw [if_neg hbet] at hnx;rw [Bool.not_eq_true] at hbet;rw [hbet];have dS:=Hd hnx;clear hnx
     go_wp2_with fail
     go_roundw
     case rel =>
      refine ⟨I+1,by omega,by go_num,Hd ?_,hcw.trans ((hcA.trans hcB fun _ _ h=>h).mono fun _ _ h=>h.elim) fun _ _ h=>h⟩;rw [dS.out];exact HW2.out
     case measure=>simp [intOf]; omega
  ·have eI:I=l.length:=by omega
   subst eI;rw [List.take_length] at HW;obtain ⟨sM,OX,_,_⟩:=QX (hcw.heap HB0.out fun h=>by omega);obtain ⟨g0,g1,g2,g3,g4,g5⟩:=XD HW.out;obtain ⟨k0,k1,k2,k3,k4,k5⟩:=XD (hcw.heap HB1.out fun h=>by omega);obtain ⟨V,hV⟩:∃ V,V=bst Vl.less (QZ c l):=⟨_,rfl⟩
   rw [<- hV] at g0 g1 g2;have HV:=Hd hV;clear hV
   go_wp2_with fail
   refine bodyPost_ret (v := .tuple #[.agg #[.int .i64 V.k,.int .i64 V.n,.string (str V.s)],.bool true]) ?_ rfl ?_
   ·simp only [results,show Tryz.f490.results = #[.cell 4 55,.tmp 5] from rfl];go_simp
   ·refine ⟨by rw [HV.out]; rfl,?_⟩;obtain ⟨hZ,bW⟩:=HZ.out;have hA:=hc4.trans hcw fun i hi e=>by omega
    exact hA.trans (Chg.Z5 (T:=fun k=>k=Z+1) (Chg.Z5 (T:=fun k=>k=Z+1) (Chg.Z5 (T:=fun k=>k=Z+1) (Chg.refl _ _) (D:=Z+1) rfl 0 _) (D:=Z+1) rfl 1 _) (D:=Z+1) rfl 2 _) fun i hi e=>by omega
end
section
open Go.RowKit
def Vl.more (a b:Vl):Bool:=b.less a
theorem Zbj {F:Nat->Prop} {w:World} {v:Value} {l:List Itm} {c:Nat} (h:Zp F w v l) (hlen:l.length<=4096) (hrow:∀ x∈l,c<x.row.length) (hstr:∀ x∈l,∀ v∈x.row,v.s.length<=9223372036854775807) :
  Calls prog 490 #[.agg #[.string ⟨#[109,97,120]⟩,.int .i64 (c:Int)],v] w fun e w'=>e = .returned (.tuple #[(bst Vl.more (QZ c l)).val,.bool true])/\Chg (fun _=>False) w w':=by
 obtain ⟨A,cap,rfl,hn,hcap,hat⟩:=h;have HA:=Hd hat;have HL:=Hd hlen;have HS:=Hd (And.intro hrow hstr);clear hat hlen hrow hstr
 go_enter func490,ntmps490
 go_wp2_with fail
 obtain ⟨w4,hw4,hc4,bW,b0,b1,b2,b3⟩:=Rb (w:=w) (.cells #[.string ⟨#[109,97,120]⟩,.int .i64 (c:Int)] 405) (.cells #[.int .i64 0,.int .i64 0,.string ⟨#[]⟩] 55) (.cells #[.int .i64 0,.int .u64 0] 677) (.cells #[.int .i64 0,.int .i64 0,.string ⟨#[]⟩] 55);rw [<- hw4];clear hw4;obtain ⟨Z,hZ⟩:∃ x,x=w.heap.size:=⟨_,rfl⟩
 rw [<- hZ] at b0 b1 b2 b3 bW ⊢;have HB0:=Hd b0;have HB1:=Hd b1;have HB3:=Hd b3;have HZ:=Hd (And.intro hZ bW);clear b0 b1 b2 b3 hZ bW
 go_loopw [16] (fun i wr=>∃ I:Nat,I<=l.length/\i = .int .i64 I/\Hid (wr.heap[Z+1+1+1]? = some (.cells #[.int .i64 (bst Vl.more (QZ c (l.take I))).k,.int .i64 (bst Vl.more (QZ c (l.take I))).n,.string (str (bst Vl.more (QZ c (l.take I))).s)] 55 (0,0)))/\Chg (fun b=>b=Z+1+1+1) w4 wr) (fun i _=>l.length-(intOf i).toNat)
 case atStart=>exact ⟨0,Nat.zero_le _,rfl,HB3,Chg.refl _ _⟩
 case round =>
  obtain ⟨I,hI,rfl,HW,hcw⟩:=hrel;obtain ⟨f0,e0,_,_⟩:=QX (hcw.heap HB0.out fun h=>by omega);by_cases hlt:I<l.length
  ·obtain ⟨b,off,rfl,_,hb,hx⟩:=HA.out (by omega);obtain ⟨x,ag⟩:∃ x,l[I]? = some x:=⟨_,List.getElem?_eq_getElem hlt⟩
   obtain ⟨⟨rv,p0,hrow⟩,p1,ha,hbb,_⟩:=hx I x ag;have hxm:=List.mem_of_getElem? ag;have hcl:=HS.out.1 x hxm;obtain ⟨vv,hvv⟩:∃ v,x.row[c]? = some v:=⟨_,List.getElem?_eq_getElem hcl⟩
   have hvs:=HS.out.2 x hxm vv (List.mem_of_getElem? hvv);have hbz:b≠Z+1+1+1:=by have:=HZ.out.1; omega
   have q0:=hcw.cell (hc4.cell p0 fun h=>h) hbz;have q1:=hcw.cell (hc4.cell p1 fun h=>h) hbz;obtain ⟨RA,aa,rfl,hrn,hrc,dB⟩:=hrow;obtain ⟨rb,roff,rfl,_,hrb,hrx⟩:=dB (by omega);obtain ⟨v0,v1,v2,_⟩:=hrx c vv hvv;have hrz:rb≠Z+1+1+1:=by have:=HZ.out.1; omega
   have r0:=hcw.cell (hc4.cell v0 fun h=>h) hrz;have r1:=hcw.cell (hc4.cell v1 fun h=>h) hrz;have r2:=hcw.cell (hc4.cell v2 fun h=>h) hrz;have hc1:=fun w=>QW ha hbb w;unfold tc at hc1 q1;have hst:=ZE;obtain ⟨V,hV⟩:∃ V,V=bst Vl.more (QZ c (l.take I)):=⟨_,rfl⟩
   have nL:V.s.length<=9223372036854775807:=by
    rw [hV];refine Co fun v hv => ?_;simp only [QZ,List.mem_map] at hv;obtain ⟨y,hy,rfl⟩:=hv;have hym:=List.mem_of_mem_take hy;rw [List.getElem?_eq_getElem (HS.out.1 y hym)];exact HS.out.2 y hym _ (List.getElem_mem _)
   rw [<- hV] at HW;have hless:=fun W=>KW V vv W nL hvs;unfold Vl.val at hless
   have hnx:bst Vl.more (QZ c (l.take (I+1)))=if I=0 then vv else if Vl.more vv V then vv else V:=by
    rw [List.take_add_one,ag];simp only [Option.toList_some];rw [Nf,hvv,Cn,hV];simp only [Option.getD_some,Si]
    have:l.take I=[]↔I=0:=by
     constructor
     ·intro h;have:=congrArg List.length h;rw [List.length_take,List.length_nil] at this;omega
     ·rintro rfl; rfl
    simp only [this]
   have iT:=Hd hnx;obtain ⟨RL,jy⟩:∃ n,n=x.row.length:=⟨_,rfl⟩
   rw [<- jy] at q0 hcl hrn;obtain ⟨d,hd⟩:∃ d:Int,(x.a:Int)-x.b=d:=⟨_,rfl⟩
   rw [hd] at hc1;have nM:(c:Int)<(RL:Int):=by omega
   clear hx p0 p1 ag hd hV nL hvs ha hbb hbz hnx hvv hxm dB hrx v0 v1 v2 hrz hrb hb jy hrn
   go_wp2_with fail
   refine (hc1 _).mono ?_;rintro _ w1 ⟨rfl,hc⟩;have hcA:=((Chg.refl (fun _=>False) wr).alloc (.cells #[.slice (some ⟨rb,roff,none⟩) RL aa,.complex .f64 (fl x.a) (fl x.b)] 59)).trans hc fun _ _ h=>h;have jA:((wr.alloc (.cells #[.slice (some ⟨rb,roff,none⟩) RL aa,.complex .f64 (fl x.a) (fl x.b)] 59))).cell? ⟨wr.heap.size,0,none⟩=some (.slice (some ⟨rb,roff,none⟩) RL aa):=by go_simp
   have qA:=hc.cell jA fun h=>h;have f1:=hcA.cell f0 fun h=>h;have f2:=hcA.cell e0 fun h=>h;have s0:=hcA.cell r0 fun h=>h;have s1:=hcA.cell r1 fun h=>h;have s2:=hcA.cell r2 fun h=>h;have HW1:=Hd (hcA.heap HW.out fun h=>h);obtain ⟨g0,g1,g2,g3,g4,g5⟩:=XD HW1.out;clear r0 r1 r2 f0 e0 q0 q1 jA;have hzl:Z<w1.heap.size/\Z+1+1+1<w1.heap.size:=by have h1:=HZ.out.2; have h2:=hcw.size; have h3:=hcA.size; omega
   obtain ⟨nO,nP⟩:=hzl;by_cases hI0:I=0
   ·subst hI0
    go_wp2_with fail
    go_roundw
    case rel =>
     have hnx:=iT.out;simp only [if_true,Nat.zero_add] at hnx;refine ⟨1,by omega,rfl,Hd ?_,hcw.trans ((mo hcA (Z+1+1+1) _ _ _).alloc _) fun _ _ h=>h⟩;rw [hnx];exact ((Chg.refl (fun _=>False) _).alloc (.cells #[.int .i64 vv.k,.int .i64 vv.n,.string (str vv.s)] 55)).heap (ZfO HW1.out) fun h=>h
    case measure=>simp [intOf]; omega
   ·have hI1:¬ (I:Int)=0:=by omega
    go_wp2_with fail
    refine (hless _).mono ?_;rintro _ w2 ⟨rfl,hc2⟩;have hcB:=((Chg.refl (fun _=>False) w1).alloc (.cells #[.int .i64 vv.k,.int .i64 vv.n,.string (str vv.s)] 55)).trans hc2 fun _ _ h=>h;have f3:=hcB.cell f1 fun h=>h;have HW2:=Hd (hcB.heap HW1.out fun h=>h);have hnw:(w1.alloc (.cells #[.int .i64 vv.k,.int .i64 vv.n,.string (str vv.s)] 55)).heap[w1.heap.size]? = some (.cells #[.int .i64 vv.k,.int .i64 vv.n,.string (str vv.s)] 55):=Array.getElem?_push_size;obtain ⟨m0,m1,m2,_,_,_⟩:=XD (hc2.heap hnw fun h=>h);have hnx:=iT.out;rw [if_neg hI0] at hnx;clear f1 f2 g0 g1 g2 g3 g4 g5 s0 s1 s2 qA;obtain ⟨g0,g1,g2,g3,g4,g5⟩:=XD HW2.out;have nQ:Vl.more vv V=V.less vv:=rfl;rw [nQ] at hnx;by_cases hbet:V.less vv=true
    ·rw [if_pos hbet] at hnx;rw [hbet];have dS:=Hd hnx;clear hnx
     go_wp2_with fail
     go_roundw
     case rel =>
      refine ⟨I+1,by omega,by go_num,Hd ?_,hcw.trans (mo (hcA.trans hcB fun _ _ h=>h) (Z+1+1+1) _ _ _) fun _ _ h=>h⟩;rw [dS.out];exact ZfO HW2.out
     case measure=>simp [intOf]; omega
    ·rw [if_neg hbet] at hnx;rw [Bool.not_eq_true] at hbet;rw [hbet];have dS:=Hd hnx;clear hnx
     go_wp2_with fail
     go_roundw
     case rel =>
      refine ⟨I+1,by omega,by go_num,Hd ?_,hcw.trans ((hcA.trans hcB fun _ _ h=>h).mono fun _ _ h=>h.elim) fun _ _ h=>h⟩;rw [dS.out];exact HW2.out
     case measure=>simp [intOf]; omega
  ·have eI:I=l.length:=by omega
   subst eI;rw [List.take_length] at HW;obtain ⟨sM,OX,_,_⟩:=QX (hcw.heap HB0.out fun h=>by omega);obtain ⟨g0,g1,g2,g3,g4,g5⟩:=XD HW.out;obtain ⟨k0,k1,k2,k3,k4,k5⟩:=XD (hcw.heap HB1.out fun h=>by omega);obtain ⟨V,hV⟩:∃ V,V=bst Vl.more (QZ c l):=⟨_,rfl⟩
   rw [<- hV] at g0 g1 g2;have HV:=Hd hV;clear hV
   go_wp2_with fail
   refine bodyPost_ret (v := .tuple #[.agg #[.int .i64 V.k,.int .i64 V.n,.string (str V.s)],.bool true]) ?_ rfl ?_
   ·simp only [results,show Tryz.f490.results = #[.cell 4 55,.tmp 5] from rfl];go_simp
   ·refine ⟨by rw [HV.out]; rfl,?_⟩;obtain ⟨hZ,bW⟩:=HZ.out;have hA:=hc4.trans hcw fun i hi e=>by omega
    exact hA.trans (Chg.Z5 (T:=fun k=>k=Z+1) (Chg.Z5 (T:=fun k=>k=Z+1) (Chg.Z5 (T:=fun k=>k=Z+1) (Chg.refl _ _) (D:=Z+1) rfl 0 _) (D:=Z+1) rfl 1 _) (D:=Z+1) rfl 2 _) fun i hi e=>by omega
end
section
open Go.RowKit
def Qy (c:Nat):List Itm->Int
 | []=>0
 | x::l=>x.net*(x.row[c]?.getD ⟨0,0,[]⟩).n+Qy c l
theorem LQ (c:Nat) (l m:List Itm):Qy c (l++m)=Qy c l+Qy c m:=by
 induction l with
 | nil=>simp [Qy]
 | cons x l ih=>simp only [List.cons_append,Qy,ih]; omega
theorem Zbk {F:Nat->Prop} {w:World} {v:Value} {l:List Itm} {c:Nat} (h:Zp F w v l) (hlen:l.length<=4096) (hrow:∀ x∈l,∃ v,x.row[c]? = some v /\ -9223372036854775808<=v.n/\v.n<=9223372036854775807) (hsm:∀ n,n<=l.length -> -1000000<=Qy c (l.take n)/\Qy c (l.take n)<=1000000) :
  Calls prog 490 #[.agg #[.string ⟨#[115,117,109]⟩,.int .i64 (c:Int)],v] w fun e w'=>e = .returned (.tuple #[.agg #[.int .i64 1,.int .i64 (Qy c l),.string ⟨#[]⟩],.bool true])/\Chg (fun _=>False) w w':=by
 obtain ⟨A,cap,rfl,hn,hcap,hat⟩:=h;have HA:=Hd hat;have HL:=Hd hlen;have HS:=Hd hsm;have HR:=Hd hrow;clear hat hlen hsm hrow
 go_enter func490,ntmps490
 go_wp2_with fail
 obtain ⟨w4,hw4,hc4,bW,b0,b1,b2,b3⟩:=Rb (w:=w) (.cells #[.string ⟨#[115,117,109]⟩,.int .i64 (c:Int)] 405) (.cells #[.int .i64 0,.int .i64 0,.string ⟨#[]⟩] 55) (.cells #[.int .i64 0,.int .u64 0] 677) (.cells #[.int .i64 0,.int .i64 0,.string ⟨#[]⟩] 55);rw [<- hw4];clear hw4;obtain ⟨Z,hZ⟩:∃ x,x=w.heap.size:=⟨_,rfl⟩
 rw [<- hZ] at b0 b1 b2 b3 bW ⊢;have HB0:=Hd b0;have HB1:=Hd b1;have HB2:=Hd b2;have HZ:=Hd (And.intro hZ bW);clear b0 b1 b2 b3 hZ bW
 go_loopw [16] (fun i wr=>∃ I:Nat,I<=l.length/\i = .int .i64 I/\Hid (wr.heap[Z+1+1]? = some (.cells #[.int .i64 (Qy c (l.take I) / 18446744073709551616),.int .u64 (Qy c (l.take I)%18446744073709551616)] 677 (0,0)))/\Chg (fun b=>b=Z+1+1) w4 wr) (fun i _=>l.length-(intOf i).toNat)
 case atStart=>exact ⟨0,Nat.zero_le _,rfl,HB2,Chg.refl _ _⟩
 case round =>
  obtain ⟨I,hI,rfl,HW,hcw⟩:=hrel;obtain ⟨f0,e0,_,_⟩:=QX (hcw.heap HB0.out fun h=>by omega);by_cases hlt:I<l.length
  ·obtain ⟨b,off,rfl,_,hb,hx⟩:=HA.out (by omega);obtain ⟨x,ag⟩:∃ x,l[I]? = some x:=⟨_,List.getElem?_eq_getElem hlt⟩
   obtain ⟨⟨rv,p0,hrow⟩,p1,ha,hbb,_⟩:=hx I x ag;have hxm:=List.mem_of_getElem? ag;obtain ⟨vv,hvv,hv1,hv2⟩:=HR.out x hxm;have hcl:c<x.row.length:=(List.getElem?_eq_some_iff.1 hvv).1;have hbz:b≠Z+1+1:=by have:=HZ.out.1; omega
   have q0:=hcw.cell (hc4.cell p0 fun h=>h) hbz;have q1:=hcw.cell (hc4.cell p1 fun h=>h) hbz;obtain ⟨RA,aa,rfl,hrn,hrc,dB⟩:=hrow;obtain ⟨rb,roff,rfl,_,hrb,hrx⟩:=dB (by omega);obtain ⟨v0,v1,v2,_⟩:=hrx c vv hvv;have hrz:rb≠Z+1+1:=by have:=HZ.out.1; omega
   have r0:=hcw.cell (hc4.cell v0 fun h=>h) hrz;have r1:=hcw.cell (hc4.cell v1 fun h=>h) hrz;have r2:=hcw.cell (hc4.cell v2 fun h=>h) hrz;have hc1:=fun w=>QW ha hbb w;unfold tc at hc1 q1;have hst:=ZE;obtain ⟨d,hd⟩:∃ d:Int,(x.a:Int)-x.b=d:=⟨_,rfl⟩
   rw [hd] at hc1;have hdl : -1125899906842624<=d/\d<=1125899906842624:=by omega
   have hs1:=HS.out I hI;obtain ⟨V,hV⟩:∃ V,V=Qy c (l.take I):=⟨_,rfl⟩
   rw [<- hV] at hs1 HW;have had:=fun W=>Nc (z:=V) (a:=d) (b:=vv.n) (by omega) ⟨hv1,hv2⟩ (by omega) W;unfold wd at had;have HX:=Hd (And.intro ag (And.intro hd (And.intro hV hvv)));obtain ⟨RL,jy⟩:∃ n,n=x.row.length:=⟨_,rfl⟩
   rw [<- jy] at q0 hcl hrn;have nM:(c:Int)<(RL:Int):=by omega
   clear hv1 hv2 hxm dB hrx v0 v1 v2 hrz hrb hb jy hrn hvv hdl hs1;clear hx p0 p1 ag hd hV ha hbb hbz
   go_wp2_with fail
   refine (hc1 _).mono ?_;rintro _ w1 ⟨rfl,hc⟩;have hcA:=((Chg.refl (fun _=>False) wr).alloc (.cells #[.slice (some ⟨rb,roff,none⟩) RL aa,.complex .f64 (fl x.a) (fl x.b)] 59)).trans hc fun _ _ h=>h;have jA:((wr.alloc (.cells #[.slice (some ⟨rb,roff,none⟩) RL aa,.complex .f64 (fl x.a) (fl x.b)] 59))).cell? ⟨wr.heap.size,0,none⟩=some (.slice (some ⟨rb,roff,none⟩) RL aa):=by go_simp
   have qA:=hc.cell jA fun h=>h;have f1:=hcA.cell f0 fun h=>h;have f2:=hcA.cell e0 fun h=>h;have s0:=hcA.cell r0 fun h=>h;have s1:=hcA.cell r1 fun h=>h;have s2:=hcA.cell r2 fun h=>h;have HW1:=Hd (hcA.heap HW.out fun h=>h);obtain ⟨g0,g1,g2,g3⟩:=QX HW1.out;have hzl:Z<w1.heap.size/\Z+1+1<w1.heap.size:=by have h1:=HZ.out.2; have h2:=hcw.size; have h3:=hcA.size; omega
   obtain ⟨nO,nP⟩:=hzl;clear r0 r1 r2 f0 e0 q0 q1 jA
   go_wp2_with fail
   refine (had _).mono ?_;rintro _ w2 ⟨rfl,hc2⟩;have hcB:=((Chg.refl (fun _=>False) w1).alloc (.cells #[.int .i64 vv.k,.int .i64 vv.n,.string (str vv.s)] 55)).trans hc2 fun _ _ h=>h;have HW2:=Hd (hcB.heap HW1.out fun h=>h);obtain ⟨k0,k1,k2,k3⟩:=QX HW2.out;clear g0 g1 g2 g3 f1 f2 s0 s1 s2 qA
   go_wp2_with fail
   go_roundw
   case rel =>
    refine ⟨I+1,by omega,by go_num,Hd ?_,hcw.trans (((hcA.trans hcB fun _ _ h=>h).mono fun _ _ h=>h.elim).trans (Chg.Z5 (T:=fun k=>k=Z+1+1) (Chg.Z5 (T:=fun k=>k=Z+1+1) (Chg.refl _ _) (D:=Z+1+1) rfl 0 _) (D:=Z+1+1) rfl 1 _) fun _ _ h=>h) fun _ _ h=>h⟩;obtain ⟨ag,hd,hV,hvv⟩:=HX.out;rw [ZkA HW2.out,List.take_add_one,ag,LQ,<- hV];simp only [Option.toList_some,Qy,Int.add_zero,Itm.net,hd,hvv,Option.getD_some]
   case measure=>simp [intOf]; omega
  ·have eI:I=l.length:=by omega
   subst eI;rw [List.take_length] at HW;have hs1:=HS.out l.length (Nat.le_refl _);rw [List.take_length] at hs1;have hsm:=fun W=>T7 (z:=Qy c l) (by omega) W;obtain ⟨V,hV⟩:∃ V,V=Qy c l:=⟨_,rfl⟩
   rw [<- hV] at hsm HW;have HV:=Hd hV;unfold wd at hsm;clear hs1 hV;obtain ⟨g0,g1,g2,g3⟩:=QX HW.out;have jZ:=fun W=>Nd V W
   go_wp2_with fail
   refine (hsm _).mono ?_;rintro _ w1 ⟨rfl,hc⟩
   go_wp2_with fail
   refine (jZ _).mono ?_;rintro _ w2 ⟨rfl,hc2⟩;obtain ⟨k0,k1,k2,k3,k4,k5⟩:=XD (hc2.heap (hc.heap (hcw.heap HB1.out fun h=>by omega) fun h=>h) fun h=>h)
   go_wp2_with fail
   refine bodyPost_ret (v := .tuple #[.agg #[.int .i64 1,.int .i64 V,.string ⟨#[]⟩],.bool true]) ?_ rfl ?_
   ·simp only [results,show Tryz.f490.results = #[.cell 4 55,.tmp 5] from rfl];go_simp
   ·refine ⟨by rw [HV.out],?_⟩;obtain ⟨hZ,bW⟩:=HZ.out;have hA:=((hc4.trans hcw fun i hi e=>by omega).trans hc fun _ _ h=>h).trans hc2 fun _ _ h=>h;exact hA.trans (Chg.Z5 (T:=fun k=>k=Z+1) (Chg.Z5 (T:=fun k=>k=Z+1) (Chg.Z5 (T:=fun k=>k=Z+1) (Chg.refl _ _) (D:=Z+1) rfl 0 _) (D:=Z+1) rfl 1 _) (D:=Z+1) rfl 2 _) fun i hi e=>by omega
end
section
open Go.RowKit
theorem Sj (w:World) (x y z:Value) (t:TypeId):CsK (w.alloc (.cells #[x,y,z] t)) (fun b=>b=w.heap.size) 3 (some ⟨w.heap.size,0,none⟩) 1 [x,y,z]:=by
 have h:(w.alloc (.cells #[x,y,z] t)).heap[w.heap.size]? = some (.cells #[x,y,z] t (0,0)):=Array.getElem?_push_size;obtain ⟨c0,c1,c2,_,_,_⟩:=XD h;refine ⟨rfl,fun _=>⟨_,0,rfl,rfl,World.block_lt_of_cell? _ _ c0,fun j u hu => ?_⟩⟩
 match j,hu with
 | 0,hu=>cases hu; exact c0
 | 1,hu=>cases hu; exact c1
 | 2,hu=>cases hu; exact c2
 | j+3,hu=>simp at hu
theorem Uv {Fk:Nat->Prop} {w:World} {kv lv:Value} {key:List Vl} {fs:List (ByteArray×Int)} {fb fo fc:Nat} {val:Nat->Vl} (hk:Zm Fk w kv key) (nR:key.length<=1000)
  (hf:∀ j f,fs[j]? = some f->w.cell? ⟨fb,fo+j*2,none⟩=some (.string f.1)/\w.cell? ⟨fb,fo+j*2+1,none⟩=some (.int .i64 f.2)) (nS:fs.length<=1000)
  (h1:∀ j f,fs[j]? = some f->∀ W,Chg (fun _=>False) w W->Calls prog 490 #[.agg #[.string f.1,.int .i64 f.2],lv] W fun e W'=>e = .returned (.tuple #[(val j).val,.bool true])/\Chg (fun _=>False) W W')
  (hvs:∀ j,(val j).s.length<=9223372036854775807) :
  Calls prog 412 #[kv,.slice (some ⟨fb,fo,none⟩) fs.length fc,lv] w (Neu w fun u w'=>∃ rv,u = .tuple #[rv,.int .i64 0]/\Zm (new w) w' rv (key++(List.range fs.length).map val)):=by
 have HF:=Hd hf;have H1:=Hd h1;have j4:=Hd hk.fit;obtain ⟨A,cap,rfl,hn,hcap,hat⟩:=hk;obtain ⟨_,hcs⟩:=Zm.csK ⟨A,cap,rfl,hn,hcap,hat⟩;have HK:=Hd (show CsK (w.alloc (.cells #[] 55)) Fk 3 A key.length (Qg key) from hcs.chg ((Chg.refl (fun _=>False) w).alloc _) fun _ _ _ h=>h);have HL:=Hd (And.intro nR nS);clear hf h1 hat hcs
 go_enter func412,ntmps412
 go_wp2_with (at_builtin; refine ZA rfl _ _ 39 39 rfl 55 3 32 MJ none _ 0 0 _ [] (Qg key) _ rfl rfl (QD.Xz _ _ _ _) (X4.slice HK.out) (MI key) key.length ?_ ?_ ?_ ?_)
 ·omega
 ·omega
 ·intro own A0 cap0 w0 hown hor ae;have HO:=Hd hown;clear hown
  go_wp2_with fail
  have OY:=Hd (show ∀ g,own=some g->w.heap.size<=g from fun g hg=>by
   rcases hor with h0 | h0
   ·rw [h0] at hg; cases hg
   ·rw [h0] at hg; simp at hg; omega)
  have hc0:Chg (fun _=>False) w w0:=((Chg.refl (fun _=>False) w).alloc _).trans ae fun _ _ hf=>by cases hf
  clear hor ae
  go_loopw [8,18] (fun s i wr=>∃ (I:Nat) (own:Option Nat) (B:Option Addr) (cc:Nat),I<=fs.length/\i = .int .i64 I/\s = .slice B (key.length+I) cc/\Hid (QD wr 55 3 own B (key.length+I) cc (Qg (key++(List.range I).map val)))/\Hid (∀ g,own=some g->w.heap.size<=g)/\Chg (fun _=>False) w wr) (fun _ i _=>fs.length-(intOf i).toNat)
  case atStart=>exact ⟨0,own,A0,cap0,Nat.zero_le _,rfl,rfl,Hd (by simpa using HO.out),OY,hc0⟩
  case round =>
   obtain ⟨I,own,B,cc,hI,rfl,rfl,HO,HN,hcw⟩:=hrel;by_cases hlt:I<fs.length
   ·obtain ⟨f,mq⟩:∃ f,fs[I]? = some f:=⟨_,List.getElem?_eq_getElem hlt⟩
    obtain ⟨p0,p1⟩:=HF.out I f mq;have q0:=hcw.cell p0 (fun h=>h);have q1:=hcw.cell p1 (fun h=>h);have hone:=H1.out I f mq;have hon:=fun W (h:Chg (fun _=>False) wr W)=>hone W (hcw.trans h fun _ _ h=>h);unfold Vl.val at hon;have aD:=Hd hlt;clear mq hone p0 p1
    go_wp2_with fail
    refine (hon _ ((Chg.refl _ wr).alloc _)).mono ?_;rintro _ w1 ⟨rfl,hc⟩;have hcA:=((Chg.refl (fun _=>False) wr).alloc (.cells #[.string f.1,.int .i64 f.2] 405)).trans hc fun _ _ h=>h;have h3:=Sj (w1.alloc (.cells #[.int .i64 (val I).k,.int .i64 (val I).n,.string (str (val I).s)] 55)) (.int .i64 (val I).k) (.int .i64 (val I).n) (.string (str (val I).s)) 55;rw [show (w1.alloc (.cells #[.int .i64 (val I).k,.int .i64 (val I).n,.string (str (val I).s)] 55)).heap.size=w1.heap.size+1 from Array.size_push _] at h3;have H3:=Hd h3;clear h3;have dC:Chg (fun _=>False) wr ((w1.alloc (.cells #[.int .i64 (val I).k,.int .i64 (val I).n,.string (str (val I).s)] 55)).alloc (.cells #[.int .i64 (val I).k,.int .i64 (val I).n,.string (str (val I).s)] 55)):=(hcA.alloc _).alloc _;have bN:=Hd (HO.out.chg dC fun _ _ h=>h);clear q0 q1 hon
    go_wp2_with (at_builtin; go_loud (refine ZA rfl _ _ 39 39 rfl 55 3 32 MJ own B (key.length+I) cc 1 (Qg (key++(List.range I).map val)) [.int .i64 (val I).k,.int .i64 (val I).n,.string (str (val I).s)] _ rfl rfl bN.out (X4.slice H3.out) (by simp [Value.oneCell']) (key.length+(I+1)) (by omega) (by have:=HL.out; omega) (by have:=HL.out; omega) ?_))
    intro own' B' c' w3 hown hor ae;have dA:=Hd hown;clear hown
    go_wp2_with fail
    go_roundw
    case rel =>
     have hlt:=aD.out;have tH:=dC.size;have hsz0:=hcw.size;have hszA:=hcA.size;have e1:((w1.alloc (.cells #[.int .i64 (val I).k,.int .i64 (val I).n,.string (str (val I).s)] 55)).alloc (.cells #[.int .i64 (val I).k,.int .i64 (val I).n,.string (str (val I).s)] 55)).heap.size=w1.heap.size+1+1:=by rw [show ((w1.alloc (.cells #[.int .i64 (val I).k,.int .i64 (val I).n,.string (str (val I).s)] 55)).alloc (.cells #[.int .i64 (val I).k,.int .i64 (val I).n,.string (str (val I).s)] 55)).heap=(w1.heap.push _).push _ from rfl]; simp
     refine ⟨I+1,own',B',c',by omega,by go_num,rfl,Hd ?_,Hd fun g hg => ?_,(hcw.trans dC fun _ _ h=>h).trans ae fun i hi hg=>by have:=HN.out i hg; omega⟩
     ·have e:Qg (key++(List.range (I+1)).map val)=Qg (key++(List.range I).map val)++[.int .i64 (val I).k,.int .i64 (val I).n,.string (str (val I).s)]:=by
       rw [List.range_succ];simp [Qg,Vl.cells]
      rw [e];exact dA.out
     ·rcases hor with h0 | h0
      ·exact HN.out g (h0▸hg)
      ·rw [h0] at hg;injection hg with hg
       omega
    case measure=>have hlt:=aD.out; simp [intOf]; omega
   ·have hge:¬ ((I:Int)<(fs.length:Int)):=by omega
    go_wp2_with fail
    go_ret2
    have e:I=fs.length:=by omega
    have ho:=HO.out;rw [e] at ho;have hl:(key++(List.range fs.length).map val).length=key.length+fs.length:=by simp
    rw [<- hl] at ho
    have h1:=Zm.G6 (r:=key++(List.range fs.length).map val) (F:=new w) (cap:=cc) ho (fun g hg=>HN.out g hg) (fun y hy=>by
     rcases List.mem_append.1 hy with h | h
     ·exact j4.out y h
     ·obtain ⟨n,_,rfl⟩:=List.mem_map.1 h
      exact hvs n)
    rw [hl] at h1;exact ⟨_,by rw [e]; rfl,⟨_,rfl,h1⟩,hcw⟩
end
section
open Go.RowKit
def X9:ByteArray:=⟨#[99,111,117,110,116]⟩
def Ng:ByteArray:=⟨#[115,117,109]⟩
def Nh:ByteArray:=⟨#[109,105,110]⟩
def Hw:ByteArray:=⟨#[109,97,120]⟩
def GOk (r:List Vl) (f:ByteArray×Nat):Prop:=f.1=X9\/f.1=Ng/\(∃ v,r[f.2]? = some v/\v.k=1)\/(f.1=Nh\/f.1=Hw)/\f.2<r.length
theorem Cp {Fr:Nat->Prop} {w:World} {rv:Value} {r:List Vl} {p fb fo fc kc:Nat} {KA:Option Addr} {fs:List (ByteArray×Nat)} {ks:List Nat} (hr:Zm Fr w rv r) (hrl:r.length<=1000000)
  (k0:w.cell? ⟨p,0,none⟩=some (.slice KA ks.length kc)) (k1:w.cell? ⟨p,1,none⟩=some (.slice (some ⟨fb,fo,none⟩) fs.length fc))
  (hf:∀ j f,fs[j]? = some f->GOk r f/\w.cell? ⟨fb,fo+j*2,none⟩=some (.string f.1)/\w.cell? ⟨fb,fo+j*2+1,none⟩=some (.int .i64 (f.2:Int))) (hfl:fs.length<=1000)
  (hk:∀ j n,ks[j]? = some n->n<r.length/\∃ kb ko,KA=some ⟨kb,ko,none⟩/\w.cell? ⟨kb,ko+j,none⟩=some (.int .i64 (n:Int))) (hkl:ks.length<=1000) :
  Calls prog 407 #[.pointer (some ⟨p,0,none⟩),rv] w (Neu w fun u w'=>∃ kv,u = .tuple #[kv,.bool true]/\Zm (new w) w' kv (ks.map fun n=>r[n]?.getD ⟨0,0,[]⟩)):=by
 have HF:=Hd hf;have HK:=Hd hk;have HL:=Hd (And.intro hfl hkl);have j4:=Hd hr.fit;obtain ⟨A,cap,rfl,hn,hcap,hat⟩:=hr;have HA:=Hd hat;clear hf hk hat
 go_enter func407,ntmps407
 go_wp2_with fail
 go_loopw [16] (fun i wr=>∃ I:Nat,I<=fs.length/\i = .int .i64 I/\Chg (fun _=>False) w wr) (fun i _=>fs.length-(intOf i).toNat)
 case atStart=>exact ⟨0,Nat.zero_le _,rfl,Chg.refl _ _⟩
 case round =>
  obtain ⟨I,hI,rfl,hcw⟩:=hrel;by_cases hlt:I<fs.length
  ·obtain ⟨f,mq⟩:∃ f,fs[I]? = some f:=⟨_,List.getElem?_eq_getElem hlt⟩
   obtain ⟨hok,p0,p1⟩:=HF.out I f mq;have q0:=hcw.cell p0 (fun h=>h);have q1:=hcw.cell p1 (fun h=>h);obtain ⟨nm,iR⟩:=f;simp only at hok q0 q1;clear mq p0 p1;rcases hok with h | ⟨h,vv,hv,hk1⟩ | ⟨h | h,hc⟩ <;> subst h
   ·unfold X9 at q0
    go_wp2_with fail
    go_roundw
    case rel=>exact ⟨I+1,by omega,by go_num,hcw.alloc _⟩
    case measure=>simp [intOf]; omega
   ·unfold Ng at q0;have hcl:iR<r.length:=(List.getElem?_eq_some_iff.1 hv).1;obtain ⟨rb,ro,rfl,_,hrb,hrx⟩:=HA.out (by omega);obtain ⟨v0,_,_,_⟩:=hrx iR vv hv;rw [hk1] at v0;have r0:=hcw.cell v0 (fun h=>h);have hrl:=hcw.size;have hrn:rb<wr.heap.size:=by omega
    have hc1:¬ (r.length:Int)<=(iR:Int):=by omega
    have hc2:(iR:Int)<(r.length:Int):=by omega
    clear hrx v0 hv hcl
    go_wp2_with fail
    go_roundw
    case rel=>exact ⟨I+1,by omega,by go_num,hcw.alloc _⟩
    case measure=>simp [intOf]; omega
   ·unfold Nh at q0;have hc1:¬ (r.length:Int)<=(iR:Int):=by omega
    go_wp2_with fail
    go_roundw
    case rel=>exact ⟨I+1,by omega,by go_num,hcw.alloc _⟩
    case measure=>simp [intOf]; omega
   ·unfold Hw at q0;have hc1:¬ (r.length:Int)<=(iR:Int):=by omega
    go_wp2_with fail
    go_roundw
    case rel=>exact ⟨I+1,by omega,by go_num,hcw.alloc _⟩
    case measure=>simp [intOf]; omega
  ·have hge:¬ ((I:Int)<(fs.length:Int)):=by omega
   have m0:=hcw.cell k0 (fun h=>h);have hsw:=hcw.size;have hpw:=World.block_lt_of_cell? wr _ m0;simp only at hpw;have HM:=Hd hcw;clear hlt hcw
   go_wp2_with fail
   obtain ⟨wy,tJ⟩:∃ x,x=wr.alloc (.cells #[] 55):=⟨_,rfl⟩
   rw [<- tJ];have hcy:Chg (fun _=>False) w wy:=tJ▸HM.out.alloc _;clear tJ m0 hsw hpw
   go_loopw [8,51] (fun s i wz=>∃ (J:Nat) (own:Option Nat) (B:Option Addr) (cc:Nat),J<=ks.length/\i = .int .i64 J/\s = .slice B J cc/\Hid (QD wz 55 3 own B J cc (Qg ((ks.map fun n=>r[n]?.getD ⟨0,0,[]⟩).take J)))/\Hid (∀ g,own=some g->w.heap.size<=g)/\Chg (fun _=>False) w wz) (fun _ i _=>ks.length-(intOf i).toNat)
   case atStart=>exact ⟨0,none,_,0,Nat.zero_le _,rfl,rfl,Hd (by simpa [Qg] using QD.Xz _ _ _ _),Hd (fun g h=>by cases h),hcy⟩
   case round =>
    obtain ⟨J,own,B,cc,hJ,rfl,rfl,HO,HN,hcz⟩:=hrel;by_cases hlt:J<ks.length
    ·obtain ⟨n,nT⟩:∃ n,ks[J]? = some n:=⟨_,List.getElem?_eq_getElem hlt⟩
     obtain ⟨hnl,kb,ko,rfl,p0⟩:=HK.out J n nT;have q0:=hcz.cell p0 (fun h=>h);obtain ⟨vv,hvv⟩:∃ v,r[n]? = some v:=⟨_,List.getElem?_eq_getElem hnl⟩
     obtain ⟨rb,ro,rfl,_,hrb,hrx⟩:=HA.out (by omega);obtain ⟨v0,v1,v2,_⟩:=hrx n vv hvv;have r0:=hcz.cell v0 (fun h=>h);have r1:=hcz.cell v1 (fun h=>h);have r2:=hcz.cell v2 (fun h=>h);have hc1:¬ (r.length:Int)<=(n:Int):=by omega
     have hc2:(n:Int)<(r.length:Int):=by omega
     have H3:=Hd (Sj wr (.int .i64 vv.k) (.int .i64 vv.n) (.string (str vv.s)) 55);have dC:Chg (fun _=>False) wr (wr.alloc (.cells #[.int .i64 vv.k,.int .i64 vv.n,.string (str vv.s)] 55)):=(Chg.refl _ wr).alloc _;have bN:=Hd (HO.out.chg dC fun _ _ h=>h);have HX:=Hd (And.intro nT hvv);have aD:=Hd hlt;clear hrx v0 v1 v2 p0 nT hvv hnl hrb
     go_wp2_with (at_builtin; go_loud (refine ZA rfl _ _ 39 39 rfl 55 3 32 MJ own B J cc 1 (Qg ((ks.map fun n=>r[n]?.getD ⟨0,0,[]⟩).take J)) [.int .i64 vv.k,.int .i64 vv.n,.string (str vv.s)] _ rfl rfl bN.out (X4.slice H3.out) (by simp [Value.oneCell']) (J+1) rfl (by have:=HL.out; omega) (by have:=HL.out; omega) ?_))
     intro own' B' c' w3 hown hor ae;have dA:=Hd hown;clear hown
     go_wp2_with fail
     go_roundw
     case rel =>
      have hlt:=aD.out;obtain ⟨nT,hvv⟩:=HX.out;have hsz0:=hcz.size;have e1:(wr.alloc (.cells #[.int .i64 vv.k,.int .i64 vv.n,.string (str vv.s)] 55)).heap.size=wr.heap.size+1:=Array.size_push _;refine ⟨J+1,own',B',c',by omega,by go_num,rfl,Hd ?_,Hd fun g hg => ?_,(hcz.trans dC fun _ _ h=>h).trans ae fun i hi hg=>by have:=HN.out i hg; omega⟩
      ·have e:Qg ((ks.map fun n=>r[n]?.getD ⟨0,0,[]⟩).take (J+1))=Qg ((ks.map fun n=>r[n]?.getD ⟨0,0,[]⟩).take J)++[.int .i64 vv.k,.int .i64 vv.n,.string (str vv.s)]:=by
        rw [List.take_add_one,List.getElem?_map,nT];simp [Qg,Vl.cells,hvv]
       rw [e];exact dA.out
      ·rcases hor with h0 | h0
       ·exact HN.out g (h0▸hg)
       ·rw [h0] at hg;injection hg with hg
        omega
     case measure=>have hlt:=aD.out; simp [intOf]; omega
    ·have hge:¬ ((J:Int)<(ks.length:Int)):=by omega
     go_wp2_with fail
     go_ret2
     have e:J=ks.length:=by omega
     have ho:=HO.out;have hl:(ks.map fun n=>r[n]?.getD ⟨0,0,[]⟩).length=ks.length:=List.length_map _;rw [e,<- hl,List.take_length] at ho
     have h1:=Zm.G6 (r:=ks.map fun n=>r[n]?.getD ⟨0,0,[]⟩) (F:=new w) (cap:=cc) ho (fun g hg=>HN.out g hg) (fun y hy=>by
      obtain ⟨n,hn,rfl⟩:=List.mem_map.1 hy;obtain ⟨j,hj⟩:=List.getElem?_of_mem hn;have hnl:=(HK.out j n hj).1;rw [List.getElem?_eq_getElem hnl]
      exact j4.out _ (List.getElem_mem _))
     rw [hl] at h1;exact ⟨_,by rw [e]; rfl,⟨_,rfl,h1⟩,hcz⟩
end
section
open Go.RowKit
def QQ (ks:List Nat) (r:List Vl):List Vl:=ks.map fun n=>r[n]?.getD ⟨0,0,[]⟩
def nmR (ks:List Nat) (r:List Vl):List UInt8:=nameOf (QQ ks r)
structure Rc (w:World) (p mb fb fo fc kc:Nat) (KA:Option Addr) (ks:List Nat) (fs:List (ByteArray×Nat)):Prop where
 c0:w.cell? ⟨p,0,none⟩=some (.slice KA ks.length kc)
 c1:w.cell? ⟨p,1,none⟩=some (.slice (some ⟨fb,fo,none⟩) fs.length fc)
 c2:w.cell? ⟨p,2,none⟩=some (.map (some mb))
 kk:∀ (j n:Nat),ks[j]? = some n->∃ kb ko,KA=some ⟨kb,ko,none⟩/\w.cell? ⟨kb,ko+j,none⟩=some (.int .i64 (n:Int))
 ff:∀ (j:Nat) f,fs[j]? = some f->w.cell? ⟨fb,fo+j*2,none⟩=some (.string f.1)/\w.cell? ⟨fb,fo+j*2+1,none⟩=some (.int .i64 (f.2:Int))
 kl:ks.length<=6
 fl:fs.length<=6
theorem Rc.Zf {w w':World} {p mb fb fo fc kc:Nat} {KA:Option Addr} {ks:List Nat} {fs:List (ByteArray×Nat)} (h:Rc w p mb fb fo fc kc KA ks fs) {T:Nat->Prop} (hc:Chg T w w') (hT:∀ k,T k->∀ c t fr,w.heap[k]? ≠ some (.cells c t fr)):Rc w' p mb fb fo fc kc KA ks fs:=by
 have hn:∀ {a:Addr} {u:Value},w.cell? a=some u->¬ T a.block:=fun {a u} hu ht=>by
  unfold World.cell? at hu;split at hu
  ·rename_i c t fr hh;exact hT _ ht _ _ _ hh
  ·cases hu
 refine ⟨hc.cell h.c0 (hn h.c0),hc.cell h.c1 (hn h.c1),hc.cell h.c2 (hn h.c2),fun j n hj => ?_,fun j f hj => ?_,h.kl,h.fl⟩
 ·obtain ⟨kb,ko,e,h1⟩:=h.kk j n hj;exact ⟨kb,ko,e,hc.cell h1 (hn h1)⟩
 ·obtain ⟨h1,h2⟩:=h.ff j f hj;exact ⟨hc.cell h1 (hn h1),hc.cell h2 (hn h2)⟩
def Y0 (ks:List Nat) (fs:List (ByteArray×Nat)) (r:List Vl):Prop:=(∀ f∈fs,GOk r f)/\(∀ n∈ks,n<r.length)/\Zi r=true
theorem Xf {r:List Vl} (h:Zi r=true):r.length<=6:=by
 unfold Zi at h;simp at h;exact h.1.2
theorem Q0 {r:List Vl} (h:Zi r=true):∀ v∈r,v.right=true:=by
 unfold Zi at h;simp at h;exact h.2
theorem WX {v:Vl} (h:v.right=true):v.s.length<=40:=by
 unfold Vl.right at h;split at h
 ·have:v.s=[]:=by simpa using h
  rw [this]; simp
 ·split at h
  ·simp at h; exact h.2
  ·cases h
theorem Ky {ks:List Nat} {r:List Vl} (h:∀ n∈ks,n<r.length) {v:Vl} (hv:v∈QQ ks r):v∈r:=by
 obtain ⟨n,hn,rfl⟩:=List.mem_map.1 hv;have hl:=h n hn;rw [List.getElem?_eq_getElem hl];exact List.getElem_mem _
theorem Y0.Zdk {ks:List Nat} {fs:List (ByteArray×Nat)} {r:List Vl} (h:Y0 ks fs r):∀ v∈QQ ks r,v.s.length<=65536:=fun v hv=>by
 have:=WX (Q0 h.2.2 v (Ky h.2.1 hv));omega
theorem Uw {Fr:Nat->Prop} {w:World} {rv:Value} {r:List Vl} {p mb fb fo fc kc:Nat} {KA:Option Addr} {ks:List Nat} {fs:List (ByteArray×Nat)} (hr:Zm Fr w rv r) (hF:Rc w p mb fb fo fc kc KA ks fs) (hs:Y0 ks fs r) :
  Calls prog 407 #[.pointer (some ⟨p,0,none⟩),rv] w (Neu w fun u w'=>∃ kv,u = .tuple #[kv,.bool true]/\Zm (new w) w' kv (QQ ks r)) :=
 Cp hr (by have:=Xf hs.2.2; omega) hF.c0 hF.c1 (fun j f hj=>⟨hs.1 f (List.mem_of_getElem? hj),hF.ff j f hj⟩) (by have:=hF.fl; omega) (fun j n hj=>⟨hs.2.1 n (List.mem_of_getElem? hj),hF.kk j n hj⟩) (by have:=hF.kl; omega)
abbrev Zin (kv iv tv:Value):Value := .agg #[kv,iv,tv]
abbrev ZfP:Value := .agg #[.slice none 0 0,.slice none 0 0,.slice none 0 0]
theorem Xg (w:World):(zeroValue 431).run prog w = .ok (.agg #[.slice none 0 0,.slice none 0 0,.slice none 0 0]) w:=by kernel_rfl
theorem Ni (x y z:Value) (w:World):(Instr.field 431 (.agg #[x,y,z]) 1).run prog w = .ok y w:=by kernel_rfl
theorem Zp.one {F:Nat->Prop} {w:World} {own:Option Nat} {A:Option Addr} {cap:Nat} {rv:Value} {x:Itm} (h:QD w 59 2 own A 1 cap [rv,tc x.a x.b]) (hF:∀ g,own=some g->F g) (hx:POk F w (rv,x)):Zp F w (.slice A 1 cap) [x] :=
 Zp.Pg (ps:=[(rv,x)]) (h.cs.mono fun g hg _=>hF g hg) rfl h.fits h.Wg fun p hp=>by rw [List.mem_singleton.1 hp]; exact hx
def Ke (w:World) (m:Nat) (G:Nat->Prop):Nat->Prop:=fun b=>m<b\/G b/\b<w.heap.size
structure Split (w wr:World) (G:Nat->Prop) (ks:List Nat) (D:List (List Vl×Int)) (I:Nat) (f:List UInt8->Option Value):Prop where
 map:Qx wr w.heap.size f
 has:∀ j p,j<I->D[j]? = some p->∃ kv iv,f (nmR ks p.1)=some (Zin kv iv (.slice none 0 0))/\Zm (Ke w w.heap.size G) wr kv (QQ ks p.1)/\Zp (Ke w w.heap.size G) wr iv (Zj [p])
 dom:∀ k,f k≠none->∃ j p,j<I/\D[j]? = some p/\k=nmR ks p.1
theorem Split.Zf {w wr wr':World} {G:Nat->Prop} {ks:List Nat} {D:List (List Vl×Int)} {I:Nat} {f:List UInt8->Option Value} (h:Split w wr G ks D I f) (hc:Chg (fun _=>False) wr wr'):Split w wr' G ks D I f :=
 ⟨h.map.chg hc fun h=>h,fun j p hj hp=>by
  obtain ⟨kv,iv,h1,h2,h3⟩:=h.has j p hj hp
  exact ⟨kv,iv,h1,h2.Zf hc,h3.Zf hc⟩,h.dom⟩
theorem Cq {G:Nat->Prop} {w:World} {sv:Value} {p mb fb fo fc kc:Nat} {KA:Option Addr} {ks:List Nat} {fs:List (ByteArray×Nat)} {D:List (List Vl×Int)} (hd:Zp G w sv (Zj D)) (hlen:D.length<=4096) (hF:Rc w p mb fb fo fc kc KA ks fs)
  (hs:∀ p∈D,Y0 ks fs p.1) (hnd:(D.map fun p=>nmR ks p.1).Nodup) :
  Calls prog 300 #[.pointer (some ⟨p,0,none⟩),sv] w fun e w'=>e = .returned (.tuple #[.map (some w.heap.size),.bool true])/\Chg (fun _=>False) w w'/\∃ f,Split w w' G ks D D.length f:=by
 obtain ⟨A,cap,rfl,hn,hcap,hat⟩:=hd;rw [Zu] at hn hat ⊢;have HAT:=Hd hat;have HL:=Hd hlen;have HF:=Hd hF;have HS:=Hd hs;have qD:=Hd hnd;have hpl:=World.block_lt_of_cell? w _ hF.c0;have hmm:=@run_makeMap prog;have tK:=Ni;clear hat hlen hF hs hnd
 go_enter func300,ntmps300
 go_wp2_with fail
 obtain ⟨w0,hw0⟩:∃ x,x=w.alloc (.map #[] 0):=⟨_,rfl⟩
 rw [<- hw0]
 have h0:Chg (fun _=>False) w w0/\Qx w0 w.heap.size (fun _=>none):=by
  subst hw0;exact ⟨(Chg.refl _ w).alloc _,#[],0,heap_alloc_new w _,Wi.empty 0⟩
 clear hw0 hmm
 go_loopw [15] (fun i wr=>∃ I:Nat,I<=D.length/\i = .int .i64 I/\Chg (fun _=>False) w wr/\Hid (∃ f,Split w wr G ks D I f)) (fun i _=>D.length-(intOf i).toNat)
 case atStart=>exact ⟨0,Nat.zero_le _,rfl,h0.1,Hd ⟨_,h0.2,fun j p hj=>absurd hj (Nat.not_lt_zero _),fun k hk=>absurd rfl hk⟩⟩
 case round =>
  clear h0;obtain ⟨I,hI,rfl,hcw,tL⟩:=hrel;by_cases hlt:I<D.length
  ·obtain ⟨b,off,rfl,hG,hb,hx⟩:=HAT.out (by omega);obtain ⟨⟨r,n⟩,ag⟩:∃ x,D[I]? = some x:=⟨_,List.getElem?_eq_getElem hlt⟩
   obtain ⟨⟨rv,p0,hrow⟩,p1,hia,hib,hrl⟩:=hx I (ZB (r,n)) (MT ag);have HIT:=Hd (And.intro hia (And.intro hib hrl));simp only [ZB] at hrow p1 hrl;have q0:=hcw.cell p0 (fun h=>h);have q1:=hcw.cell p1 (fun h=>h);have hsu:Y0 ks fs r:=HS.out _ (List.mem_of_getElem? ag);have hkey:=fun W (hc:Chg (fun _=>False) w W)=>Uw (hrow.Zf hc) (HF.out.Zf hc fun _ h=>h.elim) hsu;have hnm:=fun W kv (hk:Zm (new (wr.alloc (.cells #[rv,tc n.toNat (-n).toNat] 59))) W kv (QQ ks r))=>Uf hk hsu.Zdk (by have:=HF.out.kl; simp only [QQ,List.length_map]; omega);have tN:=Hd hrow;obtain ⟨RA,aa,rfl,_⟩:=hrow;have HX:=Hd ag;have aD:=Hd hlt;have HB:=Hd (And.intro hG hb);have hst:=ZE;unfold tc at q1 hnm;clear ag hx p0 p1 hrl hia hib hsu hG hb
   go_wp2_with fail
   have dC:Chg (fun _=>False) w (wr.alloc (.cells #[.slice RA r.length aa,.complex .f64 (fl n.toNat) (fl (-n).toNat)] 59)):=hcw.alloc _;refine (hkey _ dC).mono ?_;rintro _ w1 ⟨u,rfl,⟨kv,rfl,tO⟩,hc1⟩;have nU:=hnm w1 kv tO;have tQ:=Hd tO;obtain ⟨aZ,bg,rfl,_⟩:=tO;have hblk:(wr.alloc (.cells #[.slice RA r.length aa,.complex .f64 (fl n.toNat) (fl (-n).toNat)] 59)).heap[wr.heap.size]? = some (.cells #[.slice RA r.length aa,.complex .f64 (fl n.toNat) (fl (-n).toNat)] 59 (0,0)):=heap_alloc_new wr _;have hblk1:=hc1.heap hblk (fun h=>h);clear hkey hnm hblk
   go_wp2_with fail
   refine nU.mono ?_;rintro _ w2 ⟨rfl,hc2⟩;have hblk2:=hc2.heap hblk1 (fun h=>h);obtain ⟨d0,d1,_,_⟩:=QX hblk2;have hw2:Chg (fun _=>False) w w2:=(dC.trans hc1 fun _ _ h=>h).trans hc2 fun _ _ h=>h;have hr2:Chg (fun _=>False) wr w2:=(((Chg.refl (fun _=>False) wr).alloc (.cells #[.slice RA r.length aa,.complex .f64 (fl n.toNat) (fl (-n).toNat)] 59)).trans hc1 fun _ _ h=>h).trans hc2 fun _ _ h=>h;obtain ⟨f,hsp⟩:=tL.out
   have hfn:f (nmR ks r)=none:=by
    cases hf:f (nmR ks r) with
    | none=>rfl
    | some v =>
     obtain ⟨j,q,hj,hq,e⟩:=hsp.dom (nmR ks r) (by rw [hf]; exact fun h=>by cases h);have hnd:=qD.out;have h1:(D.map fun p=>nmR ks p.1)[j]? = some (nmR ks q.1):=by rw [List.getElem?_map,hq]; rfl
     have h2:(D.map fun p=>nmR ks p.1)[I]? = some (nmR ks r):=by rw [List.getElem?_map,HX.out]; rfl
     have:=(List.getElem?_inj (by rw [List.length_map]; omega) hnd).1 (h1.trans (e▸h2.symm));omega
   have hsp2:=hsp.Zf hr2;have tT:=Hd hsp2;have hmap2:=hsp2.map;have OZ:=Hd hfn;have iU:=Hd hc2;have HW2:=Hd hw2;have hsz2:=hr2.size;have tV:=hsp.map.lt;have nV:=hc1.size;have nW:=hc2.size;have H1:=Hd (X5 w2 (.slice RA r.length aa) (.complex .f64 (fl n.toNat) (fl (-n).toNat)) 59);clear nU hsp hsp2 hblk1 hblk2 hc1 hc2 tL hsz2 nV nW
   go_wp2_with (first | (at_lookup; refine Jy hmap2 rfl _ _ false rfl underlying426 underlying9 (Xg _) (nmR ks r) rfl rfl ?_) | (at_builtin; refine ZA rfl _ _ 45 45 rfl 59 2 40 WQ none _ 0 0 1 [] [.slice RA r.length aa,.complex .f64 (fl n.toNat) (fl (-n).toNat)] _ rfl rfl (QD.Xz _ _ _ _) (X4.slice H1.out) (by simp [Value.oneCell']) 1 rfl (by decide) (by decide) ?_))
   clear hmap2 hfn;intro own' A' cap' w3 hown hor ae;have dD:Chg (fun _=>False) w2 w3:=((Chg.refl (fun _=>False) w2).alloc _).trans ae fun i _ h=>(by cases h)
   have HO:=Hd hown;have O0:=Hd hor;have j5:=Hd (tT.out.Zf dD);have jB:=j5.out.map;clear hown hor ae
   go_wp2_with (at_mapUpdate; go_loud (refine YX jB rfl _ _ _ rfl underlying426 underlying9 (nmR ks r) _ rfl rfl rfl ?_))
   intro w4 zg hc4 hs4;clear jB;have nX:=Hd zg;clear zg
   go_wp2_with fail
   go_roundw
   case rel =>
    have hlt:=aD.out;have hc24:Chg (fun i=>i=w.heap.size) w2 w4:=(dD.mono (T':=fun i=>i=w.heap.size) fun _ _ h=>h.elim).trans hc4 fun _ _ h=>h;have aM:Chg (fun _=>False) w w4:=(hw2.trans hc24 fun i hi h=>by omega)
    have tX:=hcw.size;have nY:=hr2.size;refine ⟨I+1,by omega,by go_num,aM,Hd ⟨_,nX.out,fun j q hj hq => ?_,fun k hk => ?_⟩⟩
    ·by_cases tY:j<I
     ·obtain ⟨kv,iv,h1,h2,h3⟩:=j5.out.has j q tY hq;have hne:nmR ks q.1≠nmR ks r:=fun e=>by rw [e,OZ.out] at h1; cases h1
      exact ⟨kv,iv,by rw [QE _ _ hne]; exact h1,h2.chg hc4 fun b hb _ e=>by simp only [Ke] at hb; omega,h3.chg hc4 fun b hb _ e=>by simp only [Ke] at hb; omega⟩
     ·have tY:j=I:=by omega
      subst tY;have:q=(r,n):=by have:=HX.out; rw [hq] at this; injection this
      subst this;refine ⟨_,_,Qa _ _ _,?_,?_⟩
      ·have h1:=tQ.out.mono (G:=fun b=>w.heap.size<b) fun b hb hl=>by
        have hb:wr.heap.size+1<=b:=by simpa [new] using hb
        omega
       exact (h1.chg ((iU.out.mono (T':=fun i=>i=w.heap.size) fun _ _ h=>h.elim).trans hc24 fun _ _ h=>h) fun b hb _ e=>by omega).mono fun b hb _ => .inl hb
      ·have iP:=dD.size;have hsz2:=HW2.out.size;have h1:Zp (Ke w w.heap.size G) w3 _ [ZB (r,n)]:=Zp.one (rv := .slice RA r.length aa) (x:=ZB (r,n)) HO.out (fun g hg => ?_) ⟨(tN.out.mono (G:=Ke w w.heap.size G) fun b hb hl => .inr ⟨hb,hl⟩).Zf (HW2.out.trans dD fun _ _ h=>h),HIT.out.1,HIT.out.2.1,HIT.out.2.2⟩
       ·exact h1.chg hc4 fun b hb _ e=>by simp only [Ke] at hb; omega
       ·rcases O0.out with h0 | h0
        ·rw [h0] at hg; cases hg
        ·rw [h0] at hg;simp at hg;exact .inl (by omega)
    ·by_cases hkk:k=nmR ks r
     ·exact ⟨I,(r,n),by omega,HX.out,hkk⟩
     ·rw [QE _ _ hkk] at hk;obtain ⟨j,q,hj,hq,e⟩:=j5.out.dom k hk;exact ⟨j,q,by omega,hq,e⟩
   case measure=>have:=aD.out; simp [intOf]; omega
  ·have hge:¬ ((I:Int)<(D.length:Int)):=by omega
   go_wp2_with fail
   go_ret2
   obtain ⟨f,hsp⟩:=tL.out;exact ⟨rfl,hcw,f,by rw [show D.length=I by omega]; exact hsp⟩
end
section
open Go.RowKit
theorem JF:∀ {l:List Itm},(∀ x∈l,0<=x.net)->0<=Zq l
 | [],_=>by simp [Zq]
 | x::l,h=>by
  have h1:=h x List.mem_cons_self;have h2:=JF fun y hy=>h y (List.mem_cons_of_mem x hy);simp only [Zq];omega
theorem Cr {l:List Itm} {I:Nat} {x:Itm} (h:l[I]? = some x):Zq (l.take (I+1))=Zq (l.take I)+x.net:=by
 rw [List.take_add_one,Wn,h];simp [Zq]
theorem Sk {l:List Itm} (h:∀ x∈l,0<=x.net) (I:Nat):0<=Zq (l.take I)/\Zq (l.take I)<=Zq l:=by
 have e:Zq l=Zq (l.take I)+Zq (l.drop I):=by rw [<- Wn,List.take_append_drop]
 have h1:=JF (l:=l.take I) fun x hx=>h x (List.mem_of_mem_take hx);have h2:=JF (l:=l.drop I) fun x hx=>h x (List.mem_of_mem_drop hx);omega
theorem ZfQ (a b:Int) (t u ty:TypeId) (w:World):(Builtin.min_ #[t,u] ty #[.int .i64 a,.int .i64 b]).run prog w = .ok (.int .i64 (if b<a then b else a)) w:=by
 simp [Builtin.min_,Builtin.min2]
theorem Nj {F:Nat->Prop} {w:World} {nb:Nat} {v:Value} {l:List Itm} {m0:Int} (hb:w.heap[nb]? = some (.cells #[.int .i64 m0] 2 (0,0))) (hv:Zp F w v l) (hF:∀ b,F b->b≠nb) (hlen:l.length<=4096) (hnn:∀ x∈l,0<=x.net) (hm0:0<=m0) (hsum:m0+Zq l<=1000) :
  Calls prog 487 #[v,.pointer (some ⟨nb,0,none⟩)] w fun e w'=>e = .returned (.tuple #[])/\w'.heap[nb]? = some (.cells #[.int .i64 (m0+Zq l)] 2 (0,0))/\Chg (fun k=>k=nb) w w':=by
 obtain ⟨A,cap,rfl,hn,hcap,hat⟩:=hv;have HA:=Hd hat;have HL:=Hd hlen;have HF:=Hd hF;have zh:=Hd hnn;have tZ:=Hd hsum;have HB:=Hd hb;have HM:=Hd hm0;have hnl:=lt_of_block hb;clear hat hlen hF hnn hsum hb hm0
 go_enter func487,ntmps487
 go_wp2_with fail
 go_loopw [7] (fun i wr=>∃ I:Nat,I<=l.length/\i = .int .i64 I/\Hid (wr.heap[nb]? = some (.cells #[.int .i64 (m0+Zq (l.take I))] 2 (0,0)))/\Chg (fun k=>k=nb) w wr) (fun i _=>l.length-(intOf i).toNat)
 case atStart=>exact ⟨0,Nat.zero_le _,rfl,Hd (by simpa [Zq] using HB.out),Chg.refl _ _⟩
 case round =>
  obtain ⟨I,hI,rfl,HC,hcw⟩:=hrel;by_cases hlt:I<l.length
  ·obtain ⟨b,off,rfl,O1,hbl,hx⟩:=HA.out (by omega);obtain ⟨x,ag⟩:∃ x,l[I]? = some x:=⟨_,List.getElem?_eq_getElem hlt⟩
   obtain ⟨⟨rv,p0,hrow⟩,p1,ha,hbb,_⟩:=hx I x ag;have hbn:=HF.out b O1;have q0:=hcw.cell p0 (fun h=>hbn h);have q1:=hcw.cell p1 (fun h=>hbn h);obtain ⟨RA,aa,rfl,_⟩:=hrow;have j6:=fun w=>QW ha hbb w;unfold tc at j6 q1;have hst:=ZE;have h1:=Cr ag;have h2:=Sk zh.out I;have h3:=Sk zh.out (I+1);have h4:=HM.out;have h5:=tZ.out;obtain ⟨m,hm⟩:∃ m,m=m0+Zq (l.take I):=⟨_,rfl⟩
   obtain ⟨d,hd⟩:∃ d:Int,d=(x.a:Int)-x.b:=⟨_,rfl⟩
   rw [<- hm] at HC;rw [<- hd] at j6;have hw:IntKind.i64.wrap (m+d)=m+d:=IntWalk.i64_in _ (by unfold Itm.net at h1; omega);have hle:¬ (1024<m+d):=by unfold Itm.net at h1; omega
   have HN:=Hd (show m+d=m0+Zq (l.take (I+1)) by unfold Itm.net at h1; omega);have hmin:=fun t u ty w=>ZfQ (m+d) 1024 t u ty w;rw [if_neg hle] at hmin;have zi:=fun w=>hmin 2 2 2 w;have hwr:=hcw.size;have hbr:=lt_of_block HC.out;have aD:=Hd hlt;clear ag hx p0 p1 ha hbb h1 h2 h3 h4 h5 hm hd hmin hle
   go_wp2_with fail
   have hcd:Chg (fun k=>k=nb) w ((wr.alloc (.cells #[.slice RA x.row.length aa,.complex .f64 (fl x.a) (fl x.b)] 59)).drew):=(hcw.alloc _).drew;have hbd:((wr.alloc (.cells #[.slice RA x.row.length aa,.complex .f64 (fl x.a) (fl x.b)] 59)).drew).heap[nb]? = some (.cells #[.int .i64 m] 2 (0,0)):=((Chg.refl (fun _=>False) wr).alloc _).drew.heap HC.out (fun h=>h);obtain ⟨eO,_⟩:=one_cell hbd;have eP:((wr.alloc (.cells #[.slice RA x.row.length aa,.complex .f64 (fl x.a) (fl x.b)] 59)).drew).cell? ⟨wr.heap.size,1,none⟩=some (.complex .f64 (fl x.a) (fl x.b)):=by go_simp
   refine Zh [0,2] (S:=fun wx=>wx.cell? ⟨nb,0,none⟩=some (.int .i64 m)/\wx.cell? ⟨wr.heap.size,1,none⟩=some (.complex .f64 (fl x.a) (fl x.b))) (by kernel_rfl) ⟨eO,eP⟩ (fun hHeld => ?_);refine tkG 0 (some 11) ?_;refine tkP 1 (some 12) ?_;refine tkG 2 (some 13) ?_;refine Zg (rs:=[3]) (by kernel_rfl) (by simp) ?_;refine Zc.cons rfl (fun K hK => ?_) Zc.nil;go_simp;refine (j6 _).mono ?_;rintro _ wA ⟨rfl,hA⟩;have gm:=hA.cell eO (fun h=>h);have gp:=hA.cell eP (fun h=>h);have zk:=hA.heap hbd (fun h=>h);obtain ⟨e0A,f0A⟩:=one_cell zk
   go_wp2_with fail
   refine hK.out _ _ ?_ ?_
   ·(intro _; exact ⟨gm,gp⟩)
   clear hK K
   try simp only [Act.put,List.setIfInBounds_toArray,List.set_cons_zero,List.set_cons_succ]
   refine tkP 4 (some 15) ?_;refine tkP 5 (some 16) ?_;refine Zg (rs:=[6]) (by kernel_rfl) (by simp) ?_;refine Zc.ZW rfl (by kernel_rfl) (fun K hK => ?_) Zc.nil;go_simp
   skip
   refine hK.out _ _ ?_;clear hK K
   try simp only [Act.put,List.setIfInBounds_toArray,List.set_cons_zero,List.set_cons_succ]
   refine Zr (by kernel_rfl) ?_ _
   go_wp2_with fail
   go_roundw
   case rel=>exact ⟨I+1,aD.out,by go_num,Hd (by rw [<- HN.out]; exact ML zk _),(hcd.trans hA fun _ _ h=>h.elim).setCell (.inl rfl) _⟩
   case measure=>have:=aD.out; simp [intOf]; omega
  ·have hge:¬ ((I:Int)<(l.length:Int)):=by omega
   go_wp2_with fail
   go_end0
   have hc:=HC.out;rw [show I=l.length by omega,List.take_length] at hc;exact ⟨rfl,hc,hcw⟩
end
section
open Go.RowKit
structure Je (w:World) (G:Nat->Prop) (v:Value) (key:List Vl) (S:List (List Vl×Int)) (told:List Vl):Prop where
 ex:∃ kv iv tv,v=Zin kv iv tv/\Zm G w kv key/\Zp G w iv (Zj S)/\Zm G w tv told
theorem Je.chg {w w':World} {G T:Nat->Prop} {v:Value} {key:List Vl} {S:List (List Vl×Int)} {told:List Vl} (h:Je w G v key S told) (hc:Chg T w w') (hn:∀ b,G b->b<w.heap.size->¬ T b):Je w' G v key S told:=by
 obtain ⟨kv,iv,tv,e,h1,h2,h3⟩:=h.ex;exact ⟨kv,iv,tv,e,h1.chg hc hn,h2.chg hc hn,h3.chg hc hn⟩
theorem Je.Zf {w w':World} {G:Nat->Prop} {v:Value} {key:List Vl} {S:List (List Vl×Int)} {told:List Vl} (h:Je w G v key S told) (hc:Chg (fun _=>False) w w'):Je w' G v key S told:=h.chg hc fun _ _ _ h=>h
theorem Je.mono {w:World} {G H:Nat->Prop} {v:Value} {key:List Vl} {S:List (List Vl×Int)} {told:List Vl} (h:Je w G v key S told) (hn:∀ b,G b->b<w.heap.size->H b):Je w H v key S told:=by
 obtain ⟨kv,iv,tv,e,h1,h2,h3⟩:=h.ex;exact ⟨kv,iv,tv,e,h1.mono hn,h2.mono hn,h3.mono hn⟩
theorem Je.cells {w:World} {G:Nat->Prop} {v:Value} {key:List Vl} {S:List (List Vl×Int)} {told:List Vl} (h:Je w G v key S told) :
  ∃ KA kc IA ic TA tc,v = .agg #[.slice KA key.length kc,.slice IA S.length ic,.slice TA told.length tc]/\Zm G w (.slice KA key.length kc) key/\Zp G w (.slice IA S.length ic) (Zj S)/\Zm G w (.slice TA told.length tc) told:=by
 obtain ⟨kv,iv,tv,e,h1,h2,h3⟩:=h.ex;obtain ⟨KA,kc,rfl,_⟩:=id h1;obtain ⟨IA,ic,rfl,_⟩:=id h2;obtain ⟨TA,tc,rfl,_⟩:=id h3;rw [Zu] at e h2;exact ⟨KA,kc,IA,ic,TA,tc,e,h1,h2,h3⟩
def Few (S:List (List Vl×Int)):Prop:=S.length<=1000/\(∀ p∈S,0<=p.2)/\Zq (Zj S)<=40
theorem Few.net {S:List (List Vl×Int)} (h:Few S):∀ x∈Zj S,0<=x.net:=fun x hx=>by
 obtain ⟨p,hp,rfl⟩:=List.mem_map.1 hx;have:=h.2.1 p hp;simp only [ZB,Itm.net];omega
def LR (w:World) (G:Nat->Prop) (f:List UInt8->Option Value):Prop:=∀ k v,f k=some v->∃ key S told,Je w G v key S told/\Few S
theorem LR.Zf {w w':World} {G:Nat->Prop} {f:List UInt8->Option Value} (h:LR w G f) (hc:Chg (fun _=>False) w w'):LR w' G f:=fun k v hv=>by
 obtain ⟨key,S,told,h1,h2⟩:=h k v hv;exact ⟨key,S,told,h1.Zf hc,h2⟩
theorem Ux {G:Nat->Prop} {w:World} {p mb fb fo fc kc bb:Nat} {KA:Option Addr} {ks:List Nat} {fs:List (ByteArray×Nat)} {f g:List UInt8->Option Value} {KS KB:List (List UInt8)} (hF:Rc w p mb fb fo fc kc KA ks fs)
  (hf:Qx w mb f) (hg:Qx w bb g) (ff:LR w G f) (fg:LR w G g) (kf:∀ k,f k≠none->k∈KS) (kg:∀ k,g k≠none->k∈KB) (kn:KS.length+KB.length<=12) :
  Calls prog 409 #[.pointer (some ⟨p,0,none⟩),.map (some bb)] w fun e w'=>e = .returned (.bool false)/\Chg (fun _=>False) w w':=by
 have HF:=Hd hF;have HM:=Hd hf;have HG:=Hd hg;have nZ:=Hd ff;have zl:=Hd fg;have og:=Hd kf;have qE:=Hd kg;have fU:=Hd kn;have hc2:=hF.c2;have hpl:=World.block_lt_of_cell? w _ hF.c2;have dz:=hf.lt;have hbl:=hg.lt;simp only at hpl;clear hF hf hg ff fg kf kg kn
 go_enter func409,ntmps409
 have hr0:Qx (w.alloc (.cells #[.int .i64 0] 2)) mb f:=HM.out.chg ((Chg.refl (fun _=>False) w).alloc _) fun h=>h;have hn0:(w.alloc (.cells #[.int .i64 0] 2)).heap[w.heap.size]? = some (.cells #[.int .i64 0] 2 (0,0)):=heap_alloc_new w _
 go_wp2_with (at_range; go_loud (refine XI hr0 rfl _ rfl underlying426 rfl ?_); intro w1 c0 hi0 hcn hc1 hs1)
 have aV:Chg (fun _=>False) w w1:=((Chg.refl (fun _=>False) w).alloc _).trans hc1 fun _ _ h=>h;have hn1:=hc1.heap hn0 (fun h=>h);obtain ⟨rb,hrb⟩:∃ x,x=(w.alloc (.cells #[.int .i64 0] 2)).heap.size:=⟨_,rfl⟩
 have kr:rb=w.heap.size+1:=by rw [hrb]; simp
 have hc0:c0<=KS.length:=hcn KS og.out;rw [<- hrb] at hi0;have HI0:=Hd hi0;have ku:=Hd hn1;have oh:=Hd hc0;rw [<- hrb];have jC:=Hd kr;clear hi0 hn1 hcn hc1 hs1 hn0 hr0 hc0 hrb kr hbl dz
 go_frame
 go_loopw [19] (fun _ wr=>∃ (left:List UInt8->Bool) (cnt:Nat) (m:Int),Hid (J7 wr rb mb f left cnt)/\Hid (wr.heap[w.heap.size]? = some (.cells #[.int .i64 m] 2 (0,0)))/\Hid (0<=m/\m+40*(cnt:Int)<=40*(KS.length:Int))/\Chg (fun _=>False) w wr) (fun _ wr=>Yo wr rb mb)
 case atStart=>exact ⟨_,c0,0,HI0,ku,Hd (by have:=oh.out; omega),aV⟩
 case round =>
  clear HI0 ku oh aV;obtain ⟨left,cnt,m,HI,HN,gy,hcw⟩:=hrel;have hi:=HI.out
  go_wp2_with (at_next; go_loud (refine X7 hi rfl _ rfl rfl ?_ ?_))
  ·intro hcnt hdone;have hm0:=gy.out;have hmk:0<=m/\m<=40*(KS.length:Int):=by omega
   have qF:=Hd hmk;have uf:=hcw;have hgr:=HG.out.chg hcw fun h=>h;have nY:=hcw.size;have hnw:=lt_of_block HN.out;have qG:=Hd hnw;clear hm0 hmk hi HI gy hdone hcnt hnw
   go_wp2_with (at_range; go_loud (refine XI hgr rfl _ rfl underlying426 rfl ?_); intro w1 c0 hi0 hcn hc1 hs1)
   obtain ⟨rc,hrc⟩:∃ x,x=wr.heap.size:=⟨_,rfl⟩
   rw [<- hrc] at hi0;rw [<- hrc];have aV:Chg (fun _=>False) w w1:=hcw.trans hc1 fun _ _ h=>h;have HI0:=Hd hi0;have oh:=Hd (hcn KB qE.out);have ku:=Hd (hc1.heap HN.out fun h=>h);have qH:=Hd (show w.heap.size<rc by have:=qG.out; omega);obtain ⟨wp,hwp⟩:∃ x,x=wr:=⟨_,rfl⟩
   subst hwp;clear hi0 hcn hc1 hs1 hrc hgr nY hcw uf
   go_frame
   go_loopw [38] (fun _ wr=>∃ (left:List UInt8->Bool) (cnt:Nat) (m:Int),Hid (J7 wr rc bb g left cnt)/\Hid (wr.heap[w.heap.size]? = some (.cells #[.int .i64 m] 2 (0,0)))/\Hid (0<=m/\m+40*(cnt:Int)<=40*(KS.length:Int)+40*(KB.length:Int))/\Chg (fun _=>False) w wr) (fun _ wr=>Yo wr rc bb)
   case atStart=>exact ⟨_,c0,m,HI0,ku,Hd (by have:=oh.out; have:=qF.out; omega),aV⟩
   case round =>
    clear HI0 ku oh aV HN qF;obtain ⟨left,cnt,m,HI,HN,gy,hcw⟩:=hrel;have hi:=HI.out
    go_wp2_with (at_next; go_loud (refine X7 hi rfl _ rfl rfl ?_ ?_))
    ·intro hcnt hdone;have hle:¬ (512<m):=by have:=gy.out; have:=fU.out; omega
     obtain ⟨e0,_⟩:=one_cell HN.out;clear hi hdone hcnt
     go_wp2_with fail
     go_ret
     exact ⟨rfl,hcw⟩
    ·intro k v w2 cnt2 hlk bQ hi2 hlt hc2' hs2 hent;have hcw2:Chg (fun _=>False) w w2:=hcw.trans hc2' fun i hi h=>by have:=qH.out; omega
     have hn2:w2.heap[w.heap.size]? = some (.cells #[.int .i64 m] 2 (0,0)):=hc2'.heap HN.out (fun h=>by have:=qH.out; omega);obtain ⟨key,S,told,bX,dE⟩:=zl.out k v bQ;have hgr:=(bX.mono (H:=fun b=>b<w.heap.size) fun b _ hl=>hl).Zf hcw2;clear bX;obtain ⟨O3,O4,IA,ic,TA,iM,rfl,hk1,hk2,hk3⟩:=hgr.cells;have HI2:=Hd hi2;have iL:=Hd hn2;have HS:=Hd hk2;have bn:=Hd dE;have aD:=Hd (And.intro hlt hs2);have mr:=Hd (hi.left_eq);clear hi hi2 hn2 hk1 hk2 hk3 hgr dE HI HN hlk bQ hlt hs2;have hadd:=fun W (hc:Chg (fun _=>False) w2 W)=>Nj (hc.heap iL.out fun h=>h) (HS.out.Zf hc) (fun b hb=>by omega) (by rw [Zu]; have:=bn.out.1; omega) bn.out.net gy.out.1 (by have:=gy.out; have:=bn.out.2.2; have:=fU.out; omega);have kz:=Hd hadd;clear hadd
     go_wp2_with fail
     refine (kz.out _ ((Chg.refl (fun _=>False) w2).alloc _)).mono ?_;rintro _ w3 ⟨rfl,kC,hc3⟩;have ug:=Hd kC;clear kC
     go_wp2_with fail
     go_roundw
     case rel =>
      have hwn:=qH.out;have iV:bb≠w.heap.size:=fun e=>by have:=HG.out.lt; omega
      refine ⟨_,cnt2,_,Hd ((HI2.out.chg ((Chg.refl (fun _=>False) w2).alloc _) (fun h=>h) (fun h=>h)).chg hc3 iV (by omega)),ug,Hd ?_,(hcw2.alloc _).trans hc3 fun i hi h=>by omega⟩;have h1:=gy.out;have h2:=aD.out.1;have h3:=bn.out.2.2;have h4:=JF bn.out.net;omega
     case measure =>
      have hwn:=qH.out;have iV:bb≠w.heap.size:=fun e=>by have:=HG.out.lt; omega
      rw [mr.out,((HI2.out.chg ((Chg.refl (fun _=>False) w2).alloc _) (fun h=>h) (fun h=>h)).chg hc3 iV (by omega)).left_eq];exact aD.out.1
  ·intro k v w2 cnt2 hlk bQ hi2 hlt hc2' hs2 hent;have hcw2:Chg (fun _=>False) w w2:=hcw.trans hc2' fun i hi h=>by have:=jC.out; omega
   have hn2:w2.heap[w.heap.size]? = some (.cells #[.int .i64 m] 2 (0,0)):=hc2'.heap HN.out (fun h=>by have:=jC.out; omega);obtain ⟨key,S,told,bX,dE⟩:=nZ.out k v bQ;have hgr:=(bX.mono (H:=fun b=>b<w.heap.size) fun b _ hl=>hl).Zf hcw2;clear bX;obtain ⟨O3,O4,IA,ic,TA,iM,rfl,hk1,hk2,hk3⟩:=hgr.cells;have hsz:=hcw.size;have HI2:=Hd hi2;have iL:=Hd hn2;have HS:=Hd hk2;have bn:=Hd dE;have aD:=Hd (And.intro hlt hs2);have mr:=Hd (hi.left_eq);clear hi hi2 hn2 hk1 hk2 hk3 hgr dE HI HN hlk bQ hlt hs2;rcases aN:g k with _ | v'
   ·have hadd:=fun W (hc:Chg (fun _=>False) w2 W)=>Nj (hc.heap iL.out fun h=>h) (HS.out.Zf hc) (fun b hb=>by omega) (by rw [Zu]; have:=bn.out.1; omega) bn.out.net gy.out.1 (by have:=gy.out; have:=bn.out.2.2; have:=fU.out; omega);have kz:=Hd hadd;clear hadd
    go_wp2_with (first | (at_lookup; go_loud (refine Jy (HG.out.chg (hcw2.alloc _) (fun h=>h)) rfl _ _ true rfl underlying426 underlying9 (Xg _) k rfl rfl ?_)))
    refine (kz.out _ (((Chg.refl (fun _=>False) w2).alloc _).alloc _)).mono ?_;rintro _ w3 ⟨rfl,kC,hc3⟩;have ug:=Hd kC;clear kC
    go_wp2_with fail
    go_roundw
    case rel =>
     have hwn:=jC.out;have iV:mb≠w.heap.size:=fun e=>by have:=HM.out.lt; omega
     refine ⟨_,cnt2,_,Hd ((HI2.out.chg (((Chg.refl (fun _=>False) w2).alloc _).alloc _) (fun h=>h) (fun h=>h)).chg hc3 iV (by omega)),ug,Hd ?_,((hcw2.alloc _).alloc _).trans hc3 fun i hi h=>by omega⟩;have h1:=gy.out;have h2:=aD.out.1;have h3:=bn.out.2.2;have h4:=JF bn.out.net;omega
    case measure =>
     have hwn:=jC.out;have iV:mb≠w.heap.size:=fun e=>by have:=HM.out.lt; omega
     rw [mr.out,((HI2.out.chg (((Chg.refl (fun _=>False) w2).alloc _).alloc _) (fun h=>h) (fun h=>h)).chg hc3 iV (by omega)).left_eq];exact aD.out.1
   ·obtain ⟨Zio,S',told',iW,om⟩:=(zl.out.Zf hcw2) k v' aN;obtain ⟨KA2,kc2,IA2,ic2,TA2,tc2,rfl,_,_,_⟩:=iW.cells;clear iW om
    go_wp2_with (first | (at_lookup; go_loud (refine Jy (HG.out.chg (hcw2.alloc _) (fun h=>h)) rfl _ _ true rfl underlying426 underlying9 (Xg _) k rfl rfl ?_)))
    go_roundw
    case rel =>
     exact ⟨_,cnt2,m,Hd (HI2.out.chg (((Chg.refl (fun _=>False) w2).alloc _).alloc _) (fun h=>h) (fun h=>h)),Hd ((((Chg.refl (fun _=>False) w2).alloc _).alloc _).heap iL.out (fun h=>h)),Hd (by have:=gy.out; have:=aD.out.1; omega),(hcw2.alloc _).alloc _⟩
    case measure =>
     rw [mr.out,(HI2.out.chg (((Chg.refl (fun _=>False) w2).alloc _).alloc _) (fun h=>h) (fun h=>h)).left_eq];exact aD.out.1
end
section
open Go
theorem Zp.move {F:Nat->Prop} {w w':World} {v:Value} {l:List Itm} (h:Zp F w v l) (hs:w.heap.size<=w'.heap.size) (hb:∀ k,F k->k<w.heap.size->w'.heap[k]? = w.heap[k]?):Zp F w' v l:=by
 have hc:Chg (fun k=>¬ F k) w { w with heap:=w'.heap }:=⟨rfl,rfl,rfl,hs,fun k hk hn=>hb k (Classical.not_not.1 hn) hk⟩
 have h2:=h.chg hc fun b hF _ hn=>hn hF;exact h2
theorem Zm.move {F:Nat->Prop} {w w':World} {v:Value} {l:List Vl} (h:Zm F w v l) (hs:w.heap.size<=w'.heap.size) (hb:∀ k,F k->k<w.heap.size->w'.heap[k]? = w.heap[k]?):Zm F w' v l:=by
 have hc:Chg (fun k=>¬ F k) w { w with heap:=w'.heap }:=⟨rfl,rfl,rfl,hs,fun k hk hn=>hb k (Classical.not_not.1 hn) hk⟩
 have h2:=h.chg hc fun b hF _ hn=>hn hF;exact h2
structure Sm (S:List (List Vl×Int)):Prop where
 set:ZP S
 few:S.length<=1000
 sum:ZN (Zj S)<=1000000
theorem Ct {l:List Itm} {x:Itm} (h:x∈l):x.a+x.b<=ZN l:=by
 induction l with
 | nil=>cases h
 | cons y l ih =>
  rw [ZN];rcases List.mem_cons.1 h with rfl | h
  ·omega
  ·have:=ih h; omega
theorem Sm.zr {S:List (List Vl×Int)} (h:Sm S):ZR S:=h.set.zr fun p hp=>by
 have h1:ZB p∈Zj S:=List.mem_map_of_mem hp;have h2:=Ct h1;have h3:=h.sum;unfold ZB at h2;simp only at h2;omega
theorem Sm.rows {S:List (List Vl×Int)} (h:Sm S):∀ x∈Zj S,Zi x.row=true:=fun x hx=>by
 obtain ⟨p,hp,rfl⟩:=List.mem_map.1 hx;exact h.set.row p hp
inductive Mn where
 | set (S:List (List Vl×Int))
 | row (r:List Vl)
 | nz
 | obj (φ : (Nat->Prop)->World->Obj->Prop)
 | none
def QK (M:Nat->Mn) (t:Nat) (F:Nat->Prop) (w:World) (v:Value):Prop:=match M t with
 | .set S=>Sm S/\Zp F w v (Zj S)
 | .row r=>Zi r=true/\Zm F w v r
 | .nz=>∃ n:Int,n≠0 /\ -1000000<=n/\n<=1000000/\v=tn n
 | .obj _=>False
 | .none=>False
def Kz (M:Nat->Mn) (t:Nat) (F:Nat->Prop) (w:World) (o:Obj):Prop:=match M t with
 | .obj φ => φ F w o
 | _=>False
namespace Ev
section
variable [Sig] {P:Program} {r:Rho} {s:St} {w:World}
theorem EV (hr:Rel r s w) {w':World} {u:Value} {F:Nat->Prop} {t:Nat} (hc:Chg (fun _=>False) w w') (h1:u.oneCell'=true) (h2:∀ b,u ≠ .bool b)
  (hF:∀ k,F k->k<w'.heap.size->JB r k\/w.heap.size<=k) (hm:Sig.Q8 t F w' u):∃ q,Ext r s w q s.VJ w'/\VR q (.gho s.next t) u:=by
 let g:Gh:=⟨u,h1,h2,F,w'⟩
 let x:RB:=⟨0,0,0,some g⟩
 refine ⟨r.at s.next x,Ext.gho hr (fun g' hg => ?_) (fun g' hg k hk hl => ?_) (fun k hk=>hc.block k hk fun h=>h) hc.size hc.os hc.tape hc.output,.gho (Rho.Zn _ _ _) rfl rfl hm⟩
 ·cases hg;refine ⟨Nat.le_refl _,fun k hk hl=>⟨rfl,fun hh => ?_⟩⟩;rcases hF k hk hl with ⟨i,y,g',e1,e2,e3,e4⟩ | h3
  ·exact ((hr.safe i y g' e1 e2).2 k e3 e4).2 hh
  ·have:=hr.lt hh; omega
 ·cases hg;exact hF k hk hl
theorem EW (hr:Rel r s w) {id t:Nat} {u:Value} (h:VR r (.gho id t) u):∃ (F:Nat->Prop) (w0:World),Sig.Q8 t F w0 u/\w0.heap.size<=w.heap.size/\(∀ k,F k->k<w0.heap.size->w.heap[k]? = w0.heap[k]? /\ JB r k):=by
 cases h with
 | gho hx hg hu hm =>
  rename_i x g;subst hu;obtain ⟨h1,h2⟩:=hr.safe _ _ _ hx hg;exact ⟨g.Sl,g.made,hm,h1,fun k hk hl=>⟨(h2 k hk hl).1,_,_,_,hx,hg,hk,hl⟩⟩
variable {M:Nat->Mn} (hM:Sig.Q8=QK M)
include hM
theorem XJ (hr:Rel r s w) {id t:Nat} {u:Value} (h:VR r (.gho id t) u) {S:List (List Vl×Int)} (hS:M t = .set S):Sm S/\Zp (JB r) w u (Zj S):=by
 obtain ⟨F,w0,h1,h2,h3⟩:=EW hr h;rw [hM] at h1;unfold QK at h1;rw [hS] at h1;exact ⟨h1.1,((h1.2.mono (G:=fun b=>F b/\b<w0.heap.size) fun b hb hl=>⟨hb,hl⟩).move h2 fun k hk hl=>(h3 k hk.1 hl).1).mono fun b hb _=>(h3 b hb.1 hb.2).2⟩
theorem Fw (hr:Rel r s w) {id t:Nat} {u:Value} (h:VR r (.gho id t) u) {l:List Vl} (hl:M t = .row l):Zi l=true/\Zm (JB r) w u l:=by
 obtain ⟨F,w0,h1,h2,h3⟩:=EW hr h;rw [hM] at h1;unfold QK at h1;rw [hl] at h1;exact ⟨h1.1,((h1.2.mono (G:=fun b=>F b/\b<w0.heap.size) fun b hb hl=>⟨hb,hl⟩).move h2 fun k hk hl=>(h3 k hk.1 hl).1).mono fun b hb _=>(h3 b hb.1 hb.2).2⟩
theorem Me (hr:Rel r s w) {w':World} {u:Value} {F:Nat->Prop} {t:Nat} {S:List (List Vl×Int)} (hc:Chg (fun _=>False) w w') (hF:∀ k,F k->k<w'.heap.size->JB r k\/w.heap.size<=k) (hS:M t = .set S) (hs:Sm S) (hu:Zp F w' u (Zj S)) :
  ∃ q,Ext r s w q s.VJ w'/\VR q (.gho s.next t) u:=by
 have hm:Sig.Q8 t F w' u:=by
  rw [hM];unfold QK;rw [hS];exact ⟨hs,hu⟩
 obtain ⟨A,c,rfl,_⟩:=hu;exact EV hr hc rfl (fun b h=>by cases h) hF hm
end
theorem Xh {P:Program} {f:FuncId} {fn:Func} {b:Code} (hf:P.funcs[f]? = some fn) (hname:(fn.name== "runtime.NumGoroutine")=false) (hb:fn.body=some b) {us:Array Value} {w:World} {R:Value->World->Prop}
  (h:Calls P f us w fun e w'=>∃ u,e = .returned u/\R u w'):XZ P f us w R:=by
 have hname':fn.name≠ "runtime.NumGoroutine":=by simpa using hname
 exact .inr ⟨by simp [callFunc,hf,hname',hb],h⟩
noncomputable section
def Ziq (s:St) (o:Option Nat):R:=match o with
 | some c => .ok (.tuple [.gho s.next c,.int .i64 (.ofNat 0)]) s.VJ
 | none => .bad
def uh (T:Nat->Nat->Option Nat) (args:List Zb) (s:St):R:=match args with
 | [.gho _ a,.gho _ b]=>Ziq s (T a b)
 | _ => .bad
def Zl1 (T:Nat->Nat->Option Nat):Orc:=⟨uh T⟩
def Zl2 (s:St) (o:Option Nat):R:=match o with
 | some c => .ok (.gho s.next c) s.VJ
 | none => .bad
def ui (T:Nat->Option Nat) (args:List Zb) (s:St):R:=match args with
 | [.gho _ a]=>Zl2 s (T a)
 | _ => .bad
def Zdl (T:Nat->Option Nat):Orc:=⟨ui T⟩
end
section
variable [Sig] {M:Nat->Mn} (hM:Sig.Q8=QK M)
include hM
theorem O5 {T:Nat->Nat->Option Nat} (hT:∀ a b c,T a b=some c->∃ S S' bq,M a = .set S/\M b = .set S'/\M c = .set bq/\Sm bq/\∀ r,nf bq r=nf S r+nf S' r)
  {fn:Func} {b:Code} (hf:prog.funcs[112]? = some fn) (hname:(fn.name== "runtime.NumGoroutine")=false) (hb:fn.body=some b):Qe prog 112 (Zl1 T):=by
 intro args s v s' h r w us hr hv;have h:uh T args s = .ok v s':=h;unfold uh at h;split at h
 ·rename_i i a j b' _;cases hv with
  | cons hx ht=>cases ht with
   | cons hy ht =>
    cases ht;rename_i u1 u2;cases hc:T a b' with
    | none=>rw [hc] at h; cases h
    | some c =>
     rw [hc] at h;cases h;obtain ⟨S,S',bq,m1,m2,m3,hs,hnf⟩:=hT a b' c hc;obtain ⟨z1,a1⟩:=XJ hM hr hx m1;obtain ⟨z2,a2⟩:=XJ hM hr hy m2;refine Xh hf hname hb ((Tq a1 a2 (by rw [Zu]; have:=z1.few; omega) (by rw [Zu]; have:=z2.few; omega) z1.rows z2.rows (by have:=z1.sum; have:=z2.sum; omega)).mono ?_);rintro _ w' ⟨u,S3,rfl,hz,h3,_,h4,h5⟩;have:S3=bq:=ZP.uniq hz hs.set fun r=>by rw [h3,Z2,Wx,Wx,hnf]
     subst this;obtain ⟨q,e1,e2⟩:=Me hM hr h5 (fun k hk _ => .inr hk) m3 hs h4;exact ⟨_,rfl,q,e1,.tuple (.cons e2 (.cons (.int _ _) .nil))⟩
 ·cases h
end
end Ev
end
section
open Go Go.Proofs Go.Shelf Go.Sort Go.Maps
open Go.WideElems (Fit rd rg)
@[reducible] def ZkB:Ev.Sig:={ x:=0,y:=0,hx:=by decide,hy:=by decide,arg:=fun _=>0,Q8:=fun _ _ _ _=>False,Xi:=fun _ _ _ _=>False,nz:=fun _ _ _ h=>h.elim }
theorem LU (Bm m n:Nat) (D0:DataW Unit) (w:World) (hBm:Bm<w.heap.size) (hm:w.cell? ⟨Bm,0,none⟩=some (.map (some m))) (hown:w.ownsMap prog 9 Ev.X8 m n D0) (hsz:Maps.size D0<=65536) :
  Calls prog 410 #[.func (.func 489) #[] #[.pointer (some ⟨Bm,0,none⟩)]] w fun e w'=>∃ (v:Value) (ss:List (List UInt8)),e = .returned v/\ss.Perm (strKeys D0) /\
   w'.ownsRow w.heap.size 9 1 v ss.length ((ss.mergeSort (fun x y=>decide (x<=y))).map encStr)/\(v = .slice none 0 0↔ss=[])/\Go.RowKit.Below w.heap.size w w':=by
 letI:Ev.Sig:=ZkB
 have hseq:SeqGives Fence.wide 2 prog 489 #[.pointer (some ⟨Bm,0,none⟩)] encStr (fun ss=>ss.Perm (strKeys D0)) (Maps.size D0) w :=
  AnyZ.keys_gives (ρ := Ev.Zib) Ev.Zhm Fence.wide _ trivial rfl (by omega) Bm m n D0 w hBm hm hown
 exact callsIn_wide.1 (AnyZ.sorted_in Ev.Zhn Fence.wide 5 trivial trivial trivial trivial rfl (by omega) (Ev.D3 _) (enters_of func109 (by kernel_rfl) rfl) 489 #[.pointer (some ⟨Bm,0,none⟩)] trivial
  (enters_of func489 (by kernel_rfl) rfl) _ (Maps.size D0) (Nat.le_trans hsz (by decide)) (by omega) w hseq)
theorem Hx:∀ {l:List MapEntry},(∀ e∈l,∃ k,e.key=QN k)->∃ ks:List (List UInt8),l.map (·.key)=ks.map encStr
 | [],_=>⟨[],rfl⟩
 | e::l,h=>by
  obtain ⟨k,hk⟩:=h e List.mem_cons_self;obtain ⟨ks,hks⟩:=Hx fun x hx=>h x (List.mem_cons_of_mem _ hx);exact ⟨k::ks,by rw [List.map_cons,List.map_cons,hks,hk]; rfl⟩
theorem Qx.owns {w:World} {m:Nat} {f:List UInt8->Option Value} (h:Qx w m f) (hk:∀ k,f k≠none->k.length<=65536) {KB:List (List UInt8)} (hK:∀ k,f k≠none->k∈KB) (hn:KB.length<=65536) :
  ∃ (D0:DataW Unit) (n:Nat) (ks:List (List UInt8)),w.ownsMap prog 9 Ev.X8 m n D0/\(strKeys D0).Perm ks/\Maps.size D0<=65536/\ks.Nodup/\ks.length<=KB.length/\∀ k,k∈ks↔f k≠none:=by
 letI:Ev.Sig:=ZkB
 obtain ⟨es,c,hb,he⟩:=h;obtain ⟨l⟩:=es;have hst:=(MapKept.stamped_iff _ _).1 he.st
 obtain ⟨ks,hks⟩:=Hx (l:=l) fun e hx=>by
  obtain ⟨k,e1,_⟩:=he.to e hx;exact ⟨k,e1⟩
 have hlen:l.length=ks.length:=by have:=congrArg List.length hks; simpa using this
 have hmem:∀ k,k∈ks↔f k≠none:=fun k=>by
  have h1:k∈ks↔QN k∈l.map (·.key):=by
   rw [hks];constructor
   ·intro h; exact List.mem_map.2 ⟨k,h,rfl⟩
   ·intro h;obtain ⟨k',h1,h2⟩:=List.mem_map.1 h;have:k'=k:=Kq h2;exact this▸h1
  rw [h1];constructor
  ·intro h;obtain ⟨e,h2,h3⟩:=List.mem_map.1 h;obtain ⟨k',e1,e2⟩:=he.to e h2;have:k'=k:=Kq (e1.symm.trans h3);subst this;rw [e2];exact fun h=>by cases h
  ·intro h;obtain ⟨v,hv⟩:=Option.ne_none_iff_exists'.1 h;obtain ⟨e,h2,h3,_⟩:=he.of k v hv;exact List.mem_map.2 ⟨e,h2,h3⟩
 have hnd:ks.Nodup:=by
  have h1:(l.map (·.key)).Pairwise (· ≠ ·):=List.pairwise_map.2 hst.2.2;rw [hks] at h1;exact (List.pairwise_map.1 h1).imp fun {a b} hne e=>hne (by rw [e])
 have hl:l.length<=KB.length:=MO hst.2.2 fun x hx=>by
  obtain ⟨k,e1,e2⟩:=he.to x hx;exact ⟨k,e1,hK k (by rw [e2]; exact fun h=>by cases h)⟩
 have hfit:Fit prog 9 Ev.X8 ⟨l⟩ c:=Ev.EG (by kernel_rfl) hks hst.1 hst.2.1 hnd (fun b hb=>hk b ((hmem b).1 hb)) (by omega);refine ⟨_,l.length,ks,⟨⟨l⟩,c,hb,hfit,Nat.le_refl _,rfl⟩,?_,?_,hnd,by omega,hmem⟩
 ·show ((l.map (rg prog 9 Ev.X8)).foldr DataW.insert [] |>.map fun p=>strOf p.1).Perm ks;have:=(Go.WideShapes.sorted_perm (l.map (rg prog 9 Ev.X8))).map fun p=>strOf p.1;rw [Ev.MY (by kernel_rfl) hks fun b hb=>hk b ((hmem b).1 hb)] at this;exact this
 ·show ((l.map (rg prog 9 Ev.X8)).foldr DataW.insert []).length<=_;rw [(Go.WideShapes.sorted_perm (l.map (rg prog 9 Ev.X8))).length_eq,List.length_map];omega
theorem LV {w:World} {Bm m:Nat} {f:List UInt8->Option Value} (hm:w.cell? ⟨Bm,0,none⟩=some (.map (some m))) (h:Qx w m f) (hk:∀ k,f k≠none->k.length<=65536) {KB:List (List UInt8)} (hK:∀ k,f k≠none->k∈KB) (hn:KB.length<=65536) :
  Calls prog 410 #[.func (.func 489) #[] #[.pointer (some ⟨Bm,0,none⟩)]] w fun e w'=>∃ (A:Option Addr) (cap:Nat) (sl:List (List UInt8)),e = .returned (.slice A sl.length cap)/\sl.Nodup/\sl.length<=KB.length/\(∀ k,k∈sl↔f k≠none)/\Chg (fun _=>False) w w' /\
   ∀ (j:Nat) k,sl[j]? = some k->∃ b off,A=some ⟨b,off,none⟩/\w'.cell? ⟨b,off+j,none⟩=some (QN k):=by
 obtain ⟨D0,n,ks,h1,h2,h3,h4,h6,h5⟩:=h.owns hk hK hn;refine (LU Bm m n D0 w (World.block_lt_of_cell? w _ hm) hm h1 h3).mono ?_;rintro _ w' ⟨v,ss,rfl,hp,hrow,hnil,hbel⟩;have hps:=hp.trans h2;have hms:(ss.mergeSort (fun x y=>decide (x<=y))).Perm ks:=(List.mergeSort_perm _ _).trans hps;have dz:(ss.mergeSort (fun x y=>decide (x<=y))).length=ss.length:=(List.mergeSort_perm ss _).length_eq;have ae:Chg (fun _=>False) w w':=(Chg.Zct hbel).mono fun i hi h=>by omega
 have hnd:(ss.mergeSort (fun x y=>decide (x<=y))).Nodup:=(hms.nodup_iff).2 h4;have hln:(ss.mergeSort (fun x y=>decide (x<=y))).length<=KB.length:=by rw [hms.length_eq]; exact h6
 have hmem:∀ k,k∈ss.mergeSort (fun x y=>decide (x<=y))↔f k≠none:=fun k=>(hms.mem_iff).trans (h5 k);rcases hrow.2 with ⟨rfl,hz⟩ | ⟨gb,cap,cur,rfl,hbase,hgb,r1,r2,r3,r4⟩
 ·refine ⟨none,0,ss.mergeSort (fun x y=>decide (x<=y)),by rw [dz,hz],hnd,hln,hmem,ae,fun j k hj => ?_⟩;have:=(List.getElem?_eq_some_iff.1 hj).1;rw [dz] at this;omega
 ·refine ⟨some ⟨gb,0,none⟩,cap,ss.mergeSort (fun x y=>decide (x<=y)),by rw [dz],hnd,hln,hmem,ae,fun j k hj=>⟨gb,0,rfl,?_⟩⟩;have hjl:=(List.getElem?_eq_some_iff.1 hj).1;rw [dz] at hjl;rw [cell_of_row w' gb (0+j) _ _ _ hgb,Nat.zero_add];have h6:(cur.toList.take (ss.length*1))[j]? = some (QN k):=by rw [r4,List.getElem?_map,hj]; rfl
  rw [List.getElem?_take_of_lt (by omega)] at h6;simpa using h6
theorem Cu {w:World} {m:Nat}:Calls prog 411 #[.map (some m)] w fun e w'=>e = .returned (.func (.func 489) #[] #[.pointer (some ⟨w.heap.size,0,none⟩)]) /\
  w'.cell? ⟨w.heap.size,0,none⟩=some (.map (some m))/\Chg (fun _=>False) w w':=by
 go_enter func411,ntmps411
 go_wp2_with fail
 go_ret
 exact ⟨rfl,(one_cell (heap_alloc_new w _)).1,(Chg.refl _ w).alloc _⟩
end
end Go.Proofs.YtheflbaejhlboaaGreatDoor
