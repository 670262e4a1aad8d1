/- Lemmas for a law of confluencetop. -/
import Derived.Test.YtheflbaejhlboaaGreatDoorTopGp17
import Derived.Test.YtheflbaejhlboaaGreatDoorTopGp18
import Derived.Test.YtheflbaejhlboaaGreatDoorTopGp19
import Derived.Test.YtheflbaejhlboaaGreatDoorTopGp20
import Derived.Test.YtheflbaejhlboaaGreatDoorTopGp21
set_option linter.all false
set_option maxRecDepth 1000000
namespace Go.Proofs.YtheflbaejhlboaaGreatDoor
open Tryz
namespace Ev
open Go Go.Proofs
noncomputable section
namespace Aw
def TL:List (Nat×Orc):=[(37,ZdU [e0]),(125,ZdU [e1,e6,e11,e16]),(133,ZdU [e2,e7,e12,e17]),(339,ZdU [e3,e4,e5,e8,e9,e10,e13,e14,e15])]
def BT:YG:={ fn:=fun f=>fnT.get f,Zf:=Vu,reg:=fun _ _=>none,orc:=fun f=>(Z8 (OL++TL) .lf).get f }
def eA:Ent:=⟨22,[],[],0,vT,[],12115⟩
theorem Zjk:Qe prog BT ME 1000000 200 eA=true:=by decide +kernel
variable [Sig]
theorem Zjl:Bool.and (CE p0) (Qe prog B0 M0 1000000 200 p0)=true:=by decide +kernel
theorem Zk8:∀ x∈PL,Qc prog x.1 x.2:=by
 intro x hx;simp only [PL,List.mem_cons,List.not_mem_nil,or_false] at hx;subst hx;refine uW fun e he => ?_;simp only [List.mem_cons,List.not_mem_nil,or_false] at he;subst he
 ·have h:=Zjl;rw [Bool.and_eq_true] at h;exact ⟨rfl,h.1,Qk y5 (fun _ _=>rfl) Qu h.2⟩
theorem Xv:Xc prog BP:=TN fun x hx=>by
 rcases List.mem_append.1 hx with h | h
 ·exact D5 x h
 ·exact Zk8 x h
theorem Zk9:∀ x∈TL,Qc prog x.1 x.2:=by
 intro x hx;simp only [TL,List.mem_cons,List.not_mem_nil,or_false] at hx;rcases hx with rfl | rfl | rfl | rfl
 ·refine Ns fun e he => ?_;simp only [List.mem_cons,List.not_mem_nil,or_false] at he;subst he
  ·exact ⟨rfl,Qk Xv (fun _ _=>rfl) Qu Zja⟩
 ·refine Ns fun e he => ?_;simp only [List.mem_cons,List.not_mem_nil,or_false] at he;rcases he with rfl | rfl | rfl | rfl
  ·exact ⟨rfl,Qk Xv (fun _ _=>rfl) Qu Zjb⟩
  ·exact ⟨rfl,Qk Xv (fun _ _=>rfl) Qu Zjg⟩
  ·exact ⟨rfl,Qk Xv (fun _ _=>rfl) Qu Zf7⟩
  ·exact ⟨rfl,Qk Xv (fun _ _=>rfl) Qu Zgc⟩
 ·refine Ns fun e he => ?_;simp only [List.mem_cons,List.not_mem_nil,or_false] at he;rcases he with rfl | rfl | rfl | rfl
  ·exact ⟨rfl,Qk Xv (fun _ _=>rfl) Qu Zjc⟩
  ·exact ⟨rfl,Qk Xv (fun _ _=>rfl) Qu Zjh⟩
  ·exact ⟨rfl,Qk Xv (fun _ _=>rfl) Qu Zf8⟩
  ·exact ⟨rfl,Qk Xv (fun _ _=>rfl) Qu Zgd⟩
 ·refine Ns fun e he => ?_;simp only [List.mem_cons,List.not_mem_nil,or_false] at he;rcases he with rfl | rfl | rfl | rfl | rfl | rfl | rfl | rfl | rfl
  ·exact ⟨rfl,Qk Xv (fun _ _=>rfl) Qu Zjd⟩
  ·exact ⟨rfl,Qk Xv (fun _ _=>rfl) Qu Zje⟩
  ·exact ⟨rfl,Qk Xv (fun _ _=>rfl) Qu Zjf⟩
  ·exact ⟨rfl,Qk Xv (fun _ _=>rfl) Qu Zji⟩
  ·exact ⟨rfl,Qk Xv (fun _ _=>rfl) Qu Zjj⟩
  ·exact ⟨rfl,Qk Xv (fun _ _=>rfl) Qu Zf6⟩
  ·exact ⟨rfl,Qk Xv (fun _ _=>rfl) Qu Zf9⟩
  ·exact ⟨rfl,Qk Xv (fun _ _=>rfl) Qu Zga⟩
  ·exact ⟨rfl,Qk Xv (fun _ _=>rfl) Qu Zgb⟩
theorem Zla:Xc prog BT:=TN fun x hx=>by
 rcases List.mem_append.1 hx with h | h
 ·exact D5 x h
 ·exact Zk9 x h
end Aw
theorem ZdV [Sig] {e:Ent} (he:D3 prog e) (hf:e.f=22) (ha:e.args=[]) (hp:e.pre=[]) (hv:e.v = .bool true) (W:World) :
  Calls prog 22 #[] W fun e W'=>e = .returned (.bool true)/\Chg (fun _=>False) W W':=by
 have h0:Rel (fun _=>none) e.S W:=by
  unfold Ent.S;rw [hp];exact ⟨⟨fun i b x hb hx=>(by cases hx),fun i _=>Tj i⟩,fun i j b c x y hb hc hx=>(by cases hx),fun i x hx=>(by cases hx),fun i x g hx=>(by cases hx)⟩
 have h1:=he (fun _=>none) W [] h0 (by rw [ha]; exact .nil);rw [hf,hv] at h1;rcases h1 with ⟨u,w',h2,_⟩ | ⟨_,h2⟩
 ·rw [call22] at h2;cases h2
 ·refine h2.mono ?_;rintro e' w' ⟨u,rfl,q,hx,hu⟩;cases hu;exact ⟨rfl,hx.os,hx.tape,hx.output,hx.size,fun k hk _=>hx.frame k hk fun ⟨i,b,x,_,hx,_⟩=>(by cases hx)⟩
theorem ZbA [Sig]:D3 prog Aw.eA:=Qk Aw.Zla (fun _ _=>rfl) Qu Aw.Zjk
theorem Di (W:World):Calls prog 22 #[] W fun e W'=>e = .returned (.bool true)/\Chg (fun _=>False) W W':=@ZdV S0 Aw.eA (@ZbA S0) rfl rfl rfl rfl W
end
end Ev
end Go.Proofs.YtheflbaejhlboaaGreatDoor
