/- Lemmas for a law of confluencetop. -/
import Derived.Test.YtheflbaejhlboaaGreatDoorTopTx17
import Derived.Test.YtheflbaejhlboaaGreatDoorTopTx18
import Derived.Test.YtheflbaejhlboaaGreatDoorTopTx19
import Derived.Test.YtheflbaejhlboaaGreatDoorTopTx20
import Derived.Test.YtheflbaejhlboaaGreatDoorTopTx21
set_option linter.all false
set_option maxRecDepth 1000000
namespace Go.Proofs.YtheflbaejhlboaaGreatDoor
open Tryz
namespace Ev
open Go Go.Proofs
noncomputable section
namespace Aw
def TL:List (Nat×Orc):=[(37,ZdM [e0]),(125,ZdM [e1,e6,e11,e16]),(133,ZdM [e2,e7,e12,e17]),(339,ZdM [e3,e4,e5,e8,e9,e10,e13,e14,e15])]
def BT:YI:={ fn:=fun f=>fnT.get f,Zf:=Vt,reg:=fun _ _=>none,orc:=fun f=>(Z9 (OL++TL) .lf).get f }
def eA:Ent:=⟨22,[],[],0,vT,[],12115⟩
theorem Zi4:Qd prog BT ME 1000000 200 eA=true:=by decide +kernel
variable [Sig]
theorem Zi5:Bool.and (Cu p0) (Qd prog B0 M0 1000000 200 p0)=true:=by decide +kernel
theorem ZkP:∀ x∈PL,Qc prog x.1 x.2:=by
 intro x hx;simp only [PL,List.mem_cons,List.not_mem_nil,or_false] at hx;subst hx;refine vC fun e he => ?_;simp only [List.mem_cons,List.not_mem_nil,or_false] at he;subst he
 ·have h:=Zi5;rw [Bool.and_eq_true] at h;exact ⟨rfl,h.1,Qk ze (fun _ _=>rfl) Qt h.2⟩
theorem Xw:Xc prog BP:=TS fun x hx=>by
 rcases List.mem_append.1 hx with h | h
 ·exact DX x h
 ·exact ZkP x h
theorem ZkQ:∀ x∈TL,Qc prog x.1 x.2:=by
 intro x hx;simp only [TL,List.mem_cons,List.not_mem_nil,or_false] at hx;rcases hx with rfl | rfl | rfl | rfl
 ·refine Nk fun e he => ?_;simp only [List.mem_cons,List.not_mem_nil,or_false] at he;subst he
  ·exact ⟨rfl,Qk Xw (fun _ _=>rfl) Qt ZiU⟩
 ·refine Nk fun e he => ?_;simp only [List.mem_cons,List.not_mem_nil,or_false] at he;rcases he with rfl | rfl | rfl | rfl
  ·exact ⟨rfl,Qk Xw (fun _ _=>rfl) Qt ZiV⟩
  ·exact ⟨rfl,Qk Xw (fun _ _=>rfl) Qt Zi0⟩
  ·exact ⟨rfl,Qk Xw (fun _ _=>rfl) Qt ZfX⟩
  ·exact ⟨rfl,Qk Xw (fun _ _=>rfl) Qt Zf2⟩
 ·refine Nk fun e he => ?_;simp only [List.mem_cons,List.not_mem_nil,or_false] at he;rcases he with rfl | rfl | rfl | rfl
  ·exact ⟨rfl,Qk Xw (fun _ _=>rfl) Qt ZiW⟩
  ·exact ⟨rfl,Qk Xw (fun _ _=>rfl) Qt Zi1⟩
  ·exact ⟨rfl,Qk Xw (fun _ _=>rfl) Qt ZfY⟩
  ·exact ⟨rfl,Qk Xw (fun _ _=>rfl) Qt Zf3⟩
 ·refine Nk fun e he => ?_;simp only [List.mem_cons,List.not_mem_nil,or_false] at he;rcases he with rfl | rfl | rfl | rfl | rfl | rfl | rfl | rfl | rfl
  ·exact ⟨rfl,Qk Xw (fun _ _=>rfl) Qt ZiX⟩
  ·exact ⟨rfl,Qk Xw (fun _ _=>rfl) Qt ZiY⟩
  ·exact ⟨rfl,Qk Xw (fun _ _=>rfl) Qt ZiZ⟩
  ·exact ⟨rfl,Qk Xw (fun _ _=>rfl) Qt Zi2⟩
  ·exact ⟨rfl,Qk Xw (fun _ _=>rfl) Qt Zi3⟩
  ·exact ⟨rfl,Qk Xw (fun _ _=>rfl) Qt ZfW⟩
  ·exact ⟨rfl,Qk Xw (fun _ _=>rfl) Qt ZfZ⟩
  ·exact ⟨rfl,Qk Xw (fun _ _=>rfl) Qt Zf0⟩
  ·exact ⟨rfl,Qk Xw (fun _ _=>rfl) Qt Zf1⟩
theorem ZkR:Xc prog BT:=TS fun x hx=>by
 rcases List.mem_append.1 hx with h | h
 ·exact DX x h
 ·exact ZkQ x h
end Aw
theorem ZdN [Sig] {e:Ent} (he:DV prog e) (hf:e.f=22) (ha:e.args=[]) (hp:e.pre=[]) (hv:e.v = .bool true) (W:World) :
  Calls prog 22 #[] W fun e W'=>e = .returned (.bool true)/\Chg (fun _=>False) W W':=by
 have h0:Rel (fun _=>none) e.S W:=by
  unfold Ent.S;rw [hp];exact ⟨⟨fun i b x hb hx=>(by cases hx),fun i _=>Tm i⟩,fun i j b c x y hb hc hx=>(by cases hx),fun i x hx=>(by cases hx),fun i x g hx=>(by cases hx)⟩
 have h1:=he (fun _=>none) W [] h0 (by rw [ha]; exact .nil);rw [hf,hv] at h1;rcases h1 with ⟨u,w',h2,_⟩ | ⟨_,h2⟩
 ·rw [call22] at h2;cases h2
 ·refine h2.mono ?_;rintro e' w' ⟨u,rfl,q,hx,hu⟩;cases hu;exact ⟨rfl,hx.os,hx.tape,hx.output,hx.size,fun k hk _=>hx.frame k hk fun ⟨i,b,x,_,hx,_⟩=>(by cases hx)⟩
theorem Zbn [Sig]:DV prog Aw.eA:=Qk Aw.ZkR (fun _ _=>rfl) Qt Aw.Zi4
theorem CB (W:World):Calls prog 22 #[] W fun e W'=>e = .returned (.bool true)/\Chg (fun _=>False) W W':=@ZdN S0 Aw.eA (@Zbn S0) rfl rfl rfl rfl W
end
end Ev
end Go.Proofs.YtheflbaejhlboaaGreatDoor
