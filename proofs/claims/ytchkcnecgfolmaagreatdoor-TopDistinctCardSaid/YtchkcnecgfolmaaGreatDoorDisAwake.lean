/-
  The run in the large: awake, out of its entries: it gives true. No condition of ours.
-/
import Derived.Test.YtchkcnecgfolmaaGreatDoorDisPlans
import Derived.Test.YtchkcnecgfolmaaGreatDoorDisE0
import Derived.Test.YtchkcnecgfolmaaGreatDoorDisE1
import Derived.Test.YtchkcnecgfolmaaGreatDoorDisE2
import Derived.Test.YtchkcnecgfolmaaGreatDoorDisE3
import Derived.Test.YtchkcnecgfolmaaGreatDoorDisE4
import Derived.Test.YtchkcnecgfolmaaGreatDoorDisE5
import Derived.Test.YtchkcnecgfolmaaGreatDoorDisE6
import Derived.Test.YtchkcnecgfolmaaGreatDoorDisE7
import Derived.Test.YtchkcnecgfolmaaGreatDoorDisE8
import Derived.Test.YtchkcnecgfolmaaGreatDoorDisE9
import Derived.Test.YtchkcnecgfolmaaGreatDoorDisE10
import Derived.Test.YtchkcnecgfolmaaGreatDoorDisE11
import Derived.Test.YtchkcnecgfolmaaGreatDoorDisE12
import Derived.Test.YtchkcnecgfolmaaGreatDoorDisE13
import Derived.Test.YtchkcnecgfolmaaGreatDoorDisE14
import Derived.Test.YtchkcnecgfolmaaGreatDoorDisE15
import Derived.Test.YtchkcnecgfolmaaGreatDoorDisE16
import Derived.Test.YtchkcnecgfolmaaGreatDoorDisE17
namespace Go.Proofs.YtchkcnecgfolmaaGreatDoor.Ev
open Go Go.Proofs
set_option maxRecDepth 1000000
set_option linter.unusedVariables false
set_option linter.unusedSectionVars false
noncomputable def TL : List (Nat × Orc) := [(28, tabO [ e0]), (113, tabO [ e1, e6, e11, e16]), (121, tabO [ e2, e7, e12, e17]), (326, tabO [ e3, e4, e5, e8, e9, e10, e13, e14, e15])]
noncomputable def BT : Base := { fn := fun f => fnT.get f, keep := keepT, reg := fun _ _ => none, orc := fun f => (putL (OL ++ TL) .lf).get f }
noncomputable def eAwake : Ent := ⟨18, [], [], 0, vT, [], 12115⟩
theorem awake_chk : entChkM Tryz.prog BT MO 1000000 200 eAwake = true := by decide +kernel
variable [Sig]
theorem TL_ok : ∀ x ∈ TL, OrcOK Tryz.prog x.1 x.2 := by
  intro x hx
  simp only [TL, List.mem_cons, List.not_mem_nil, or_false] at hx
  rcases hx with rfl | rfl | rfl | rfl
  · refine tab_ok fun e he => ?_
    simp only [List.mem_cons, List.not_mem_nil, or_false] at he
    subst he
    · exact ⟨rfl, entM_ok BP_ok (fun _ _ => rfl) mixedP e0_chk⟩
  · refine tab_ok fun e he => ?_
    simp only [List.mem_cons, List.not_mem_nil, or_false] at he
    rcases he with rfl | rfl | rfl | rfl
    · exact ⟨rfl, entM_ok BP_ok (fun _ _ => rfl) mixedP e1_chk⟩
    · exact ⟨rfl, entM_ok BP_ok (fun _ _ => rfl) mixedP e6_chk⟩
    · exact ⟨rfl, entM_ok BP_ok (fun _ _ => rfl) mixedP e11_chk⟩
    · exact ⟨rfl, entM_ok BP_ok (fun _ _ => rfl) mixedP e16_chk⟩
  · refine tab_ok fun e he => ?_
    simp only [List.mem_cons, List.not_mem_nil, or_false] at he
    rcases he with rfl | rfl | rfl | rfl
    · exact ⟨rfl, entM_ok BP_ok (fun _ _ => rfl) mixedP e2_chk⟩
    · exact ⟨rfl, entM_ok BP_ok (fun _ _ => rfl) mixedP e7_chk⟩
    · exact ⟨rfl, entM_ok BP_ok (fun _ _ => rfl) mixedP e12_chk⟩
    · exact ⟨rfl, entM_ok BP_ok (fun _ _ => rfl) mixedP e17_chk⟩
  · refine tab_ok fun e he => ?_
    simp only [List.mem_cons, List.not_mem_nil, or_false] at he
    rcases he with rfl | rfl | rfl | rfl | rfl | rfl | rfl | rfl | rfl
    · exact ⟨rfl, entM_ok BP_ok (fun _ _ => rfl) mixedP e3_chk⟩
    · exact ⟨rfl, entM_ok BP_ok (fun _ _ => rfl) mixedP e4_chk⟩
    · exact ⟨rfl, entM_ok BP_ok (fun _ _ => rfl) mixedP e5_chk⟩
    · exact ⟨rfl, entM_ok BP_ok (fun _ _ => rfl) mixedP e8_chk⟩
    · exact ⟨rfl, entM_ok BP_ok (fun _ _ => rfl) mixedP e9_chk⟩
    · exact ⟨rfl, entM_ok BP_ok (fun _ _ => rfl) mixedP e10_chk⟩
    · exact ⟨rfl, entM_ok BP_ok (fun _ _ => rfl) mixedP e13_chk⟩
    · exact ⟨rfl, entM_ok BP_ok (fun _ _ => rfl) mixedP e14_chk⟩
    · exact ⟨rfl, entM_ok BP_ok (fun _ _ => rfl) mixedP e15_chk⟩
theorem BT_ok : BaseOK Tryz.prog BT := base_ok fun x hx => by
  rcases List.mem_append.1 hx with h | h
  · exact OL_ok x h
  · exact TL_ok x h
theorem awake_ent : EntOK Tryz.prog eAwake := entM_ok BT_ok (fun _ _ => rfl) mixedP awake_chk
/-- awake, as seen from outside: it gives true, and turns nothing that was there -/
noncomputable def oAwake : Orc := ⟨fun args s => match args with
  | [] => .ok (.bool true) s
  | _ => .bad⟩
theorem awake_is : OrcOK Tryz.prog 18 oAwake := by
  intro args s v s' h r w us hr hv
  unfold oAwake at h
  simp only at h
  split at h
  · cases h
    cases hv
    have h0 : Rel (fun _ => none) eAwake.S w := ⟨⟨fun i b x hb hx => (by cases hx), fun i _ => get_lf i⟩, fun i j b c x y hb hc hx => (by cases hx), fun i x hx => (by cases hx)⟩
    refine (awake_ent _ w [] h0 .nil).mono fun u w' ⟨q, h1, h2⟩ => ⟨r, (Ext.refl hr).grow (fun k hk => h1.frame k hk fun ⟨i, b, x, _, hx, _⟩ => (by cases hx)) h1.size h1.os h1.tape h1.output, ?_⟩
    cases h2
    exact .bool _
  · cases h
end Go.Proofs.YtchkcnecgfolmaaGreatDoor.Ev
