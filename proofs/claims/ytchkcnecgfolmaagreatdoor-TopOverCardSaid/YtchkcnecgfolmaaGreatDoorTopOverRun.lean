/-
  TopOver: the call. No condition of ours.
-/
import Derived.Test.YtchkcnecgfolmaaGreatDoorTopAwake
import Derived.Test.YtchkcnecgfolmaaGreatDoorTopRunE
import Derived.Test.YtchkcnecgfolmaaGreatDoorTopV7
import Derived.Test.YtchkcnecgfolmaaGreatDoorTopV8
import Derived.Test.YtchkcnecgfolmaaGreatDoorTopV9
import Derived.Test.YtchkcnecgfolmaaGreatDoorTopV10
import Derived.Test.YtchkcnecgfolmaaGreatDoorTopV11
import Derived.Test.YtchkcnecgfolmaaGreatDoorTopV12
import Derived.Test.YtchkcnecgfolmaaGreatDoorTopV13
import Derived.Test.YtchkcnecgfolmaaGreatDoorTopV14
import Derived.Test.YtchkcnecgfolmaaGreatDoorTopV15
namespace Go.Proofs.YtchkcnecgfolmaaGreatDoor.Ev
open Go Go.Proofs
set_option maxRecDepth 1000000
set_option linter.unusedVariables false
set_option linter.unusedSectionVars false
noncomputable def LA : List (Nat × Orc) := [(18, oAwake), (11, oWithin (.sint .i64 (.ofNat 0) (.ofNat 1) (.ofNat 0)) (.int .i64 (.ofNat 0))), (6, tabO [d0, d1, d2, d3, d4])]
noncomputable def BA : Base := { fn := fun f => fnT.get f, keep := keepT, reg := fun _ _ => none, orc := fun f => (putL (OL ++ LA) .lf).get f }
noncomputable def oA : Ent := ⟨3, [.raw true, .raw false], [], 0, vT, [], 2896⟩
theorem oA_chk : entChkM Tryz.prog BA MO 1000000 200 oA = true := by decide +kernel
noncomputable def LB : List (Nat × Orc) := [(18, oAwake), (11, oWithin (.sint .i64 (.ofNat 1) (.ofNat 1) (.ofNat 1)) (.sint .i64 (.ofNat 1) (.ofNat 1) (.ofNat 0))), (6, tabO [d0, d1, d2, d5, d6])]
noncomputable def BB : Base := { fn := fun f => fnT.get f, keep := keepT, reg := fun _ _ => none, orc := fun f => (putL (OL ++ LB) .lf).get f }
noncomputable def oB : Ent := ⟨3, [.raw true, .raw false], [], 0, vT, [], 2903⟩
theorem oB_chk : entChkM Tryz.prog BB MO 1000000 200 oB = true := by decide +kernel
noncomputable def LC : List (Nat × Orc) := [(18, oAwake), (11, oWithin (.sint .i64 (.ofNat 0) (.ofNat 1) (.ofNat 0)) (.sint .i64 (.ofNat 1) (.ofNat 1) (.ofNat 1))), (6, tabO [d0, d1, d2, d3, d7, d8])]
noncomputable def BC : Base := { fn := fun f => fnT.get f, keep := keepT, reg := fun _ _ => none, orc := fun f => (putL (OL ++ LC) .lf).get f }
noncomputable def oC : Ent := ⟨3, [.raw true, .raw false], [], 0, vT, [], 2935⟩
theorem oC_chk : entChkM Tryz.prog BC MO 1000000 200 oC = true := by decide +kernel
variable [Sig]
theorem SL_ok : ∀ x ∈ SL, OrcOK Tryz.prog x.1 x.2 := by
  intro x hx
  simp only [SL, List.mem_cons, List.not_mem_nil, or_false] at hx
  subst hx
  · refine tab_ok fun e he => ?_
    simp only [List.mem_cons, List.not_mem_nil, or_false] at he
    rcases he with rfl | rfl | rfl | rfl | rfl | rfl | rfl | rfl | rfl | rfl | rfl | rfl | rfl | rfl
    · exact ⟨rfl, entM_ok BP_ok (fun _ _ => rfl) mixedP s0_chk⟩
    · exact ⟨rfl, entM_ok BP_ok (fun _ _ => rfl) mixedP s1_chk⟩
    · exact ⟨rfl, entM_ok BP_ok (fun _ _ => rfl) mixedP s2_chk⟩
    · exact ⟨rfl, entM_ok BP_ok (fun _ _ => rfl) mixedP s3_chk⟩
    · exact ⟨rfl, entM_ok BP_ok (fun _ _ => rfl) mixedP s4_chk⟩
    · exact ⟨rfl, entM_ok BP_ok (fun _ _ => rfl) mixedP s5_chk⟩
    · exact ⟨rfl, entM_ok BP_ok (fun _ _ => rfl) mixedP s6_chk⟩
    · exact ⟨rfl, entM_ok BP_ok (fun _ _ => rfl) mixedP s7_chk⟩
    · exact ⟨rfl, entM_ok BP_ok (fun _ _ => rfl) mixedP s8_chk⟩
    · exact ⟨rfl, entM_ok BP_ok (fun _ _ => rfl) mixedP s9_chk⟩
    · exact ⟨rfl, entM_ok BP_ok (fun _ _ => rfl) mixedP s10_chk⟩
    · exact ⟨rfl, entM_ok BP_ok (fun _ _ => rfl) mixedP s11_chk⟩
    · exact ⟨rfl, entM_ok BP_ok (fun _ _ => rfl) mixedP s12_chk⟩
    · exact ⟨rfl, entM_ok BP_ok (fun _ _ => rfl) mixedP s13_chk⟩
theorem BS_ok : BaseOK Tryz.prog BS := base_ok fun x hx => by
  rcases List.mem_append.1 hx with h | h
  · exact OL_ok x h
  · rcases List.mem_append.1 h with h | h
    · exact PL_ok x h
    · exact SL_ok x h
theorem oA_ok (ha : ∀ b, -9223372036854775808 ≤ Sig.arg b ∧ Sig.arg b ≤ 9223372036854775807) (hp : ∀ r, VR r (.sint .i64 (.ofNat 0) (.ofNat 1) (.ofNat 0)) (.int .i64 (win (Sig.arg true)))) (hq : ∀ r, VR r (.int .i64 (.ofNat 0)) (.int .i64 (win (Sig.arg false)))) : EntOK Tryz.prog oA := by
  refine entM_ok (base_ok fun x hx => ?_) (fun _ _ => rfl) mixedP oA_chk
  rcases List.mem_append.1 hx with h | h
  · exact OL_ok x h
  · simp only [LA, List.mem_cons, List.not_mem_nil, or_false] at h
    rcases h with rfl | rfl | rfl
    · exact awake_is
    · exact within_is hp hq ha
    · refine tab_ok fun e he => ?_
      simp only [List.mem_cons, List.not_mem_nil, or_false] at he
      rcases he with rfl | rfl | rfl | rfl | rfl
      · exact ⟨rfl, entM_ok BS_ok (fun _ _ => rfl) mixedP d0_chk⟩
      · exact ⟨rfl, entM_ok BS_ok (fun _ _ => rfl) mixedP d1_chk⟩
      · exact ⟨rfl, entM_ok BS_ok (fun _ _ => rfl) mixedP d2_chk⟩
      · exact ⟨rfl, entM_ok BS_ok (fun _ _ => rfl) mixedP d3_chk⟩
      · exact ⟨rfl, entM_ok BS_ok (fun _ _ => rfl) mixedP d4_chk⟩
theorem oB_ok (ha : ∀ b, -9223372036854775808 ≤ Sig.arg b ∧ Sig.arg b ≤ 9223372036854775807) (hp : ∀ r, VR r (.sint .i64 (.ofNat 1) (.ofNat 1) (.ofNat 1)) (.int .i64 (win (Sig.arg true)))) (hq : ∀ r, VR r (.sint .i64 (.ofNat 1) (.ofNat 1) (.ofNat 0)) (.int .i64 (win (Sig.arg false)))) : EntOK Tryz.prog oB := by
  refine entM_ok (base_ok fun x hx => ?_) (fun _ _ => rfl) mixedP oB_chk
  rcases List.mem_append.1 hx with h | h
  · exact OL_ok x h
  · simp only [LB, List.mem_cons, List.not_mem_nil, or_false] at h
    rcases h with rfl | rfl | rfl
    · exact awake_is
    · exact within_is hp hq ha
    · refine tab_ok fun e he => ?_
      simp only [List.mem_cons, List.not_mem_nil, or_false] at he
      rcases he with rfl | rfl | rfl | rfl | rfl
      · exact ⟨rfl, entM_ok BS_ok (fun _ _ => rfl) mixedP d0_chk⟩
      · exact ⟨rfl, entM_ok BS_ok (fun _ _ => rfl) mixedP d1_chk⟩
      · exact ⟨rfl, entM_ok BS_ok (fun _ _ => rfl) mixedP d2_chk⟩
      · exact ⟨rfl, entM_ok BS_ok (fun _ _ => rfl) mixedP d5_chk⟩
      · exact ⟨rfl, entM_ok BS_ok (fun _ _ => rfl) mixedP d6_chk⟩
theorem oC_ok (ha : ∀ b, -9223372036854775808 ≤ Sig.arg b ∧ Sig.arg b ≤ 9223372036854775807) (hp : ∀ r, VR r (.sint .i64 (.ofNat 0) (.ofNat 1) (.ofNat 0)) (.int .i64 (win (Sig.arg true)))) (hq : ∀ r, VR r (.sint .i64 (.ofNat 1) (.ofNat 1) (.ofNat 1)) (.int .i64 (win (Sig.arg false)))) : EntOK Tryz.prog oC := by
  refine entM_ok (base_ok fun x hx => ?_) (fun _ _ => rfl) mixedP oC_chk
  rcases List.mem_append.1 hx with h | h
  · exact OL_ok x h
  · simp only [LC, List.mem_cons, List.not_mem_nil, or_false] at h
    rcases h with rfl | rfl | rfl
    · exact awake_is
    · exact within_is hp hq ha
    · refine tab_ok fun e he => ?_
      simp only [List.mem_cons, List.not_mem_nil, or_false] at he
      rcases he with rfl | rfl | rfl | rfl | rfl | rfl
      · exact ⟨rfl, entM_ok BS_ok (fun _ _ => rfl) mixedP d0_chk⟩
      · exact ⟨rfl, entM_ok BS_ok (fun _ _ => rfl) mixedP d1_chk⟩
      · exact ⟨rfl, entM_ok BS_ok (fun _ _ => rfl) mixedP d2_chk⟩
      · exact ⟨rfl, entM_ok BS_ok (fun _ _ => rfl) mixedP d3_chk⟩
      · exact ⟨rfl, entM_ok BS_ok (fun _ _ => rfl) mixedP d7_chk⟩
      · exact ⟨rfl, entM_ok BS_ok (fun _ _ => rfl) mixedP d8_chk⟩
end Go.Proofs.YtchkcnecgfolmaaGreatDoor.Ev
namespace Go.Proofs.YtchkcnecgfolmaaGreatDoor.Ev
open Go Go.Proofs Go.RowKit
set_option linter.unusedSectionVars false
set_option linter.unusedVariables false
theorem over_of [Sig] {e : Ent} (he : EntOK Tryz.prog e) (hf : e.f = 3) (ha : e.args = [.raw true, .raw false]) (hp : e.pre = []) (hv : e.v = .bool true) (W : World) :
    Calls Tryz.prog 3 #[.int .i64 (Sig.arg true), .int .i64 (Sig.arg false)] W fun e w' => e = .returned (.bool true) ∧ Below W.heap.size W w' := by
  have h0 : Rel (fun _ => none) e.S W := by
    unfold Ent.S
    rw [hp]
    exact ⟨⟨fun i b x hb hx => (by cases hx), fun i _ => get_lf i⟩, fun i j b c x y hb hc hx => (by cases hx), fun i x hx => (by cases hx)⟩
  have h1 := he (fun _ => none) W [.int .i64 (Sig.arg true), .int .i64 (Sig.arg false)] h0 (by rw [ha]; exact .cons (.raw rfl) (.cons (.raw rfl) .nil))
  rw [hf, hv] at h1
  rcases h1 with ⟨u, w', h2, _⟩ | ⟨_, h2⟩
  · rw [Tryz.call3] at h2
    cases h2
  · refine h2.mono ?_
    rintro e' w' ⟨u, rfl, q, hx, hu⟩
    cases hu
    exact ⟨rfl, hx.os, hx.tape, hx.output, hx.size, fun k hk => hx.frame k hk fun ⟨i, b, x, _, hx, _⟩ => (by cases hx)⟩
theorem over_calls {n m : Int} (hn : -9223372036854775808 ≤ n ∧ n ≤ 9223372036854775807) (hm : -9223372036854775808 ≤ m ∧ m ≤ 9223372036854775807) (W : World) :
    Calls Tryz.prog 3 #[.int .i64 n, .int .i64 m] W fun e w' => e = .returned (.bool true) ∧ Below W.heap.size W w' := by
  have a := win_in n
  have b := win_in m
  have ar : ∀ t : Bool, -9223372036854775808 ≤ (if t then n else m) ∧ (if t then n else m) ≤ 9223372036854775807 := fun t => by cases t <;> assumption
  by_cases h0 : win m = 0
  · let S : Sig := ⟨win n, 0, a, by decide, fun t => if t then n else m⟩
    exact @over_of S oA (@oA_ok S ar (fun r => @VR.sint S r .i64 _ _ _ _ (by show win n = 0 + 1 * win n + 0 * 0; omega)) (fun r => by show VR r _ (.int .i64 (win m)); rw [h0]; exact .int _ _)) rfl rfl rfl rfl W
  · by_cases h1 : win m ≤ win n
    · let S : Sig := ⟨win m - 1, win n - win m, by omega, by omega, fun t => if t then n else m⟩
      exact @over_of S oB (@oB_ok S ar (fun r => @VR.sint S r .i64 _ _ _ _ (by show win n = 1 + 1 * (win m - 1) + 1 * (win n - win m); omega)) (fun r => @VR.sint S r .i64 _ _ _ _ (by show win m = 1 + 1 * (win m - 1) + 0 * (win n - win m); omega))) rfl rfl rfl rfl W
    · let S : Sig := ⟨win n, win m - win n - 1, a, by omega, fun t => if t then n else m⟩
      exact @over_of S oC (@oC_ok S ar (fun r => @VR.sint S r .i64 _ _ _ _ (by show win n = 0 + 1 * win n + 0 * (win m - win n - 1); omega)) (fun r => @VR.sint S r .i64 _ _ _ _ (by show win m = 1 + 1 * win n + 1 * (win m - win n - 1); omega))) rfl rfl rfl rfl W
end Go.Proofs.YtchkcnecgfolmaaGreatDoor.Ev
