/- A part of the proof of a law of package confluencetop: lemmas, no condition of ours. -/
import Derived.Test.YtheflbaejhlboaaGreatDoorTopUn26
import Derived.Test.YtheflbaejhlboaaGreatDoorTopUn30
import Derived.Test.YtheflbaejhlboaaGreatDoorTopUn31
import Derived.Test.YtheflbaejhlboaaGreatDoorTopUn32
import Derived.Test.YtheflbaejhlboaaGreatDoorTopUn33
import Derived.Test.YtheflbaejhlboaaGreatDoorTopUn34
set_option linter.unusedVariables false
set_option linter.unusedSectionVars false
set_option linter.unusedSimpArgs false
namespace Go.Proofs.YtheflbaejhlboaaGreatDoor.Ev
open Go Go.Proofs
set_option maxRecDepth 1000000
noncomputable section
namespace Aw
def TL:List (Nat×Orc):=[(37,ZaL [e0]),(125,ZaL [e1,e6,e11,e16]),(133,ZaL [e2,e7,e12,e17]),(339,ZaL [e3,e4,e5,e8,e9,e10,e13,e14,e15])]
def BT:VO:={ fn:=fun f=>fnT.get f,Zi:=KM,reg:=fun _ _=>none,orc:=fun f=>(Z0 (OL++TL) .lf).get f }
def eA:Ent:=⟨22,[],[],0,vT,[],12115⟩
theorem ZgQ:Z3 Tryz.prog BT ME 1000000 200 eA=true:=by decide +kernel
variable [Sig]
theorem ZgR:Bool.and (NO p0) (Z3 Tryz.prog B0 M0 1000000 200 p0)=true:=by decide +kernel
theorem Zir:∀ x∈PL,Z4 Tryz.prog x.1 x.2:=by
 intro x hx
 simp only [PL,List.mem_cons,List.not_mem_nil,or_false] at hx
 subst hx
 refine Zb1 fun e he => ?_
 simp only [List.mem_cons,List.not_mem_nil,or_false] at he
 subst he
 ·have h:=ZgR
  rw [Bool.and_eq_true] at h
  exact ⟨rfl,h.1,Qb ZbC (fun _ _=>rfl) Qn h.2⟩
theorem J6:J9 Tryz.prog BP:=Tj fun x hx=>by
 rcases List.mem_append.1 hx with h | h
 ·exact Fs x h
 ·exact Zir x h
theorem Zis:∀ x∈TL,Z4 Tryz.prog x.1 x.2:=by
 intro x hx
 simp only [TL,List.mem_cons,List.not_mem_nil,or_false] at hx
 rcases hx with rfl | rfl | rfl | rfl
 ·refine PK fun e he => ?_
  simp only [List.mem_cons,List.not_mem_nil,or_false] at he
  subst he
  ·exact ⟨rfl,Qb J6 (fun _ _=>rfl) Qn ZgG⟩
 ·refine PK fun e he => ?_
  simp only [List.mem_cons,List.not_mem_nil,or_false] at he
  rcases he with rfl | rfl | rfl | rfl
  ·exact ⟨rfl,Qb J6 (fun _ _=>rfl) Qn ZgH⟩
  ·exact ⟨rfl,Qb J6 (fun _ _=>rfl) Qn ZgM⟩
  ·exact ⟨rfl,Qb J6 (fun _ _=>rfl) Qn ZdV⟩
  ·exact ⟨rfl,Qb J6 (fun _ _=>rfl) Qn Zd0⟩
 ·refine PK fun e he => ?_
  simp only [List.mem_cons,List.not_mem_nil,or_false] at he
  rcases he with rfl | rfl | rfl | rfl
  ·exact ⟨rfl,Qb J6 (fun _ _=>rfl) Qn ZgI⟩
  ·exact ⟨rfl,Qb J6 (fun _ _=>rfl) Qn ZgN⟩
  ·exact ⟨rfl,Qb J6 (fun _ _=>rfl) Qn ZdW⟩
  ·exact ⟨rfl,Qb J6 (fun _ _=>rfl) Qn Zd1⟩
 ·refine PK fun e he => ?_
  simp only [List.mem_cons,List.not_mem_nil,or_false] at he
  rcases he with rfl | rfl | rfl | rfl | rfl | rfl | rfl | rfl | rfl
  ·exact ⟨rfl,Qb J6 (fun _ _=>rfl) Qn ZgJ⟩
  ·exact ⟨rfl,Qb J6 (fun _ _=>rfl) Qn ZgK⟩
  ·exact ⟨rfl,Qb J6 (fun _ _=>rfl) Qn ZgL⟩
  ·exact ⟨rfl,Qb J6 (fun _ _=>rfl) Qn ZgO⟩
  ·exact ⟨rfl,Qb J6 (fun _ _=>rfl) Qn ZgP⟩
  ·exact ⟨rfl,Qb J6 (fun _ _=>rfl) Qn ZdU⟩
  ·exact ⟨rfl,Qb J6 (fun _ _=>rfl) Qn ZdX⟩
  ·exact ⟨rfl,Qb J6 (fun _ _=>rfl) Qn ZdY⟩
  ·exact ⟨rfl,Qb J6 (fun _ _=>rfl) Qn ZdZ⟩
theorem Zit:J9 Tryz.prog BT:=Tj fun x hx=>by
 rcases List.mem_append.1 hx with h | h
 ·exact Fs x h
 ·exact Zis x h
end Aw
theorem Zcm [Sig] {e:Ent} (he:G0 Tryz.prog e) (hf:e.f=22) (ha:e.args=[]) (hp:e.pre=[]) (hv:e.v = .bool true) (W:World) :
  Calls Tryz.prog 22 #[] W fun e W'=>e = .returned (.bool true)∧Chg (fun _=>False) W W':=by
 have h0:Rel (fun _=>none) e.S W:=by
  unfold Ent.S
  rw [hp]
  exact ⟨⟨fun i b x hb hx=>(by cases hx),fun i _=>Ye i⟩,fun i j b c x y hb hc hx=>(by cases hx),fun i x hx=>(by cases hx),fun i x g hx=>(by cases hx)⟩
 have h1:=he (fun _=>none) W [] h0 (by rw [ha]; exact .nil)
 rw [hf,hv] at h1
 rcases h1 with ⟨u,w',h2,_⟩ | ⟨_,h2⟩
 ·rw [Tryz.call22] at h2
  cases h2
 ·refine h2.mono ?_
  rintro e' w' ⟨u,rfl,q,hx,hu⟩
  cases hu
  exact ⟨rfl,hx.os,hx.tape,hx.output,hx.size,fun k hk _=>hx.frame k hk fun ⟨i,b,x,_,hx,_⟩=>(by cases hx)⟩
theorem U8 [Sig]:G0 Tryz.prog Aw.eA:=Qb Aw.Zit (fun _ _=>rfl) Qn Aw.ZgQ
theorem FP (W:World):Calls Tryz.prog 22 #[] W fun e W'=>e = .returned (.bool true)∧Chg (fun _=>False) W W':=@Zcm S0 Aw.eA (@U8 S0) rfl rfl rfl rfl W
end
end Go.Proofs.YtheflbaejhlboaaGreatDoor.Ev
