/- Lemmas for a law of confluencetop. -/
import Derived.Test.YtheflbaejhlboaaGreatDoorTopNe17
import Derived.Test.YtheflbaejhlboaaGreatDoorTopNe18
import Derived.Test.YtheflbaejhlboaaGreatDoorTopNe19
import Derived.Test.YtheflbaejhlboaaGreatDoorTopNe20
import Derived.Test.YtheflbaejhlboaaGreatDoorTopNe21
set_option linter.all false
set_option maxRecDepth 1000000
namespace Go.Proofs.YtheflbaejhlboaaGreatDoor
open Tryz
namespace Ev
open Go Go.Proofs
noncomputable section
namespace Aw
def TL:List (Nat×Orc):=[(37,Zd9 [e0]),(125,Zd9 [e1,e6,e11,e16]),(133,Zd9 [e2,e7,e12,e17]),(339,Zd9 [e3,e4,e5,e8,e9,e10,e13,e14,e15])]
def BT:YT:={ fn:=fun f=>fnT.get f,Zf:=VF,reg:=fun _ _=>none,orc:=fun f=>(Qc (OL++TL) .lf).get f }
def eA:Ent:=⟨22,[],[],0,vT,[],12115⟩
theorem Zjv:Qh prog BT ME 1000000 200 eA=true:=by decide +kernel
variable [Sig]
theorem Zjw:Bool.and (CO p0) (Qh prog B0 M0 1000000 200 p0)=true:=by decide +kernel
theorem Zli:∀ x∈PL,Qe prog x.1 x.2:=by
 intro x hx;simp only [PL,List.mem_cons,List.not_mem_nil,or_false] at hx;subst hx;refine ve fun e he => ?_;simp only [List.mem_cons,List.not_mem_nil,or_false] at he;subst he
 ·have h:=Zjw;rw [Bool.and_eq_true] at h;exact ⟨rfl,h.1,Qm zf (fun _ _=>rfl) Qt h.2⟩
theorem Xw:Xe prog BP:=T6 fun x hx=>by
 rcases List.mem_append.1 hx with h | h
 ·exact Ch x h
 ·exact Zli x h
theorem Zlj:∀ x∈TL,Qe prog x.1 x.2:=by
 intro x hx;simp only [TL,List.mem_cons,List.not_mem_nil,or_false] at hx;rcases hx with rfl | rfl | rfl | rfl
 ·refine NM fun e he => ?_;simp only [List.mem_cons,List.not_mem_nil,or_false] at he;subst he
  ·exact ⟨rfl,Qm Xw (fun _ _=>rfl) Qt Zjl⟩
 ·refine NM fun e he => ?_;simp only [List.mem_cons,List.not_mem_nil,or_false] at he;rcases he with rfl | rfl | rfl | rfl
  ·exact ⟨rfl,Qm Xw (fun _ _=>rfl) Qt Zjm⟩
  ·exact ⟨rfl,Qm Xw (fun _ _=>rfl) Qt Zjr⟩
  ·exact ⟨rfl,Qm Xw (fun _ _=>rfl) Qt Zgk⟩
  ·exact ⟨rfl,Qm Xw (fun _ _=>rfl) Qt Zgp⟩
 ·refine NM fun e he => ?_;simp only [List.mem_cons,List.not_mem_nil,or_false] at he;rcases he with rfl | rfl | rfl | rfl
  ·exact ⟨rfl,Qm Xw (fun _ _=>rfl) Qt Zjn⟩
  ·exact ⟨rfl,Qm Xw (fun _ _=>rfl) Qt Zjs⟩
  ·exact ⟨rfl,Qm Xw (fun _ _=>rfl) Qt Zgl⟩
  ·exact ⟨rfl,Qm Xw (fun _ _=>rfl) Qt Zgq⟩
 ·refine NM fun e he => ?_;simp only [List.mem_cons,List.not_mem_nil,or_false] at he;rcases he with rfl | rfl | rfl | rfl | rfl | rfl | rfl | rfl | rfl
  ·exact ⟨rfl,Qm Xw (fun _ _=>rfl) Qt Zjo⟩
  ·exact ⟨rfl,Qm Xw (fun _ _=>rfl) Qt Zjp⟩
  ·exact ⟨rfl,Qm Xw (fun _ _=>rfl) Qt Zjq⟩
  ·exact ⟨rfl,Qm Xw (fun _ _=>rfl) Qt Zjt⟩
  ·exact ⟨rfl,Qm Xw (fun _ _=>rfl) Qt Zju⟩
  ·exact ⟨rfl,Qm Xw (fun _ _=>rfl) Qt Zgj⟩
  ·exact ⟨rfl,Qm Xw (fun _ _=>rfl) Qt Zgm⟩
  ·exact ⟨rfl,Qm Xw (fun _ _=>rfl) Qt Zgn⟩
  ·exact ⟨rfl,Qm Xw (fun _ _=>rfl) Qt Zgo⟩
theorem Zlk:Xe prog BT:=T6 fun x hx=>by
 rcases List.mem_append.1 hx with h | h
 ·exact Ch x h
 ·exact Zlj x h
end Aw
theorem Zea [Sig] {e:Ent} (he:Cf prog e) (hf:e.f=22) (ha:e.args=[]) (hp:e.pre=[]) (hv:e.v = .bool true) (W:World) :
  Calls prog 22 #[] W fun e W'=>e = .returned (.bool true)/\Chg (fun _=>False) W W':=by
 have h0:Rel (fun _=>none) e.S W:=by
  unfold Ent.S;rw [hp];exact ⟨⟨fun i b x hb hx=>(by cases hx),fun i _=>Tz i⟩,fun i j b c x y hb hc hx=>(by cases hx),fun i x hx=>(by cases hx),fun i x g hx=>(by cases hx)⟩
 have h1:=he (fun _=>none) W [] h0 (by rw [ha]; exact .nil);rw [hf,hv] at h1;rcases h1 with ⟨u,w',h2,_⟩ | ⟨_,h2⟩
 ·rw [call22] at h2;cases h2
 ·refine h2.mono ?_;rintro e' w' ⟨u,rfl,q,hx,hu⟩;cases hu;exact ⟨rfl,hx.os,hx.tape,hx.output,hx.size,fun k hk _=>hx.frame k hk fun ⟨i,b,x,_,hx,_⟩=>(by cases hx)⟩
theorem ZbJ [Sig]:Cf prog Aw.eA:=Qm Aw.Zlk (fun _ _=>rfl) Qt Aw.Zjv
theorem Dx (W:World):Calls prog 22 #[] W fun e W'=>e = .returned (.bool true)/\Chg (fun _=>False) W W':=@Zea S0 Aw.eA (@ZbJ S0) rfl rfl rfl rfl W
end
end Ev
end Go.Proofs.YtheflbaejhlboaaGreatDoor
