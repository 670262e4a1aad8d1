/-
  DisDistinct: the call. No condition of ours.
-/
import Derived.Test.YtchkcnecgfolmaaGreatDoorDisLoopB
import Derived.Test.YtchkcnecgfolmaaGreatDoorDisAwake
namespace Go.Proofs.YtchkcnecgfolmaaGreatDoor.Ev
open Go Go.Proofs Go.RowKit
set_option linter.unusedVariables false
set_option linter.unusedSectionVars false
set_option maxRecDepth 1000000

noncomputable def oWithinD : Orc := ⟨fun args s => match args with
  | [.raw b, x, y] => sel b (sel (isNum 0 x) (sel (isNum 30 y) (.ok (vS 0 1 0) s) .bad) .bad) (sel (isNum 0 x) (sel (sameV y (vS 0 1 0)) (.ok (vS 0 0 1) s) .bad) .bad)
  | _ => .bad⟩
noncomputable def HL : List (Nat × Orc) := [(18, oAwake), (11, oWithinD)]
noncomputable def BH : Base := { fn := fun f => fnT.get f, keep := keepT, reg := fun _ _ => none, orc := fun f => (putL (OL ++ (UL ++ HL)) .lf).get f }
noncomputable def bodyD : Code := bodyO Tryz.f4
noncomputable def exD : Code → Env → St → Res := exL Tryz.prog (callM Tryz.prog BH MO 1000000 200) KD (fun _ => none) 1000000
noncomputable def mainR : Res := execH holeD exD bodyD (enterE KD 0 .lf [.raw true, .raw false]) ⟨.lf, 0⟩
noncomputable def mainChk : Bool := match doneR (rvsOf Tryz.prog Tryz.f4.results.toList) mainR with
  | .ok v _ => sameV v vT
  | .bad => false

theorem main_chk : mainChk = true := by decide +kernel
theorem one_loop : nLoops bodyD = 1 := by decide +kernel
theorem withinD_is [Sig] (hx : Sig.x = winH 30 (Sig.arg true)) (hy : Sig.y = winH Sig.x (Sig.arg false)) (ha : ∀ b, -9223372036854775808 ≤ Sig.arg b ∧ Sig.arg b ≤ 9223372036854775807) : OrcOK Tryz.prog 11 oWithinD := by
  intro args s v s' h r w us hr hv
  unfold oWithinD at h
  simp only at h
  split at h
  · rename_i b x y
    cases hv with
    | cons e1 hv => cases hv with
      | cons e2 hv => cases hv with
        | cons e3 hv =>
          cases hv
          cases e1 with
          | raw hn =>
            cases b
            · have h : sel (isNum 0 x) (sel (sameV y (vS 0 1 0)) (.ok (vS 0 0 1) s) .bad) .bad = R.ok v s' := h
              obtain ⟨h1, h⟩ := selR_good h
              obtain ⟨h2, h⟩ := selR_good h
              cases h
              have h1 := isNum_ok h1 e2
              have h2 := sameV_eq _ _ h2
              subst h1 h2 hn
              have e4 := (@form_sint _ 0 1 0 Sig.x (by omega) _ _).1 e3
              subst e4
              refine .inr ⟨Tryz.call11 _ _, (withinH_calls _ _ w (ha false).1 (ha false).2 Sig.hx.1 Sig.hx.2).mono ?_⟩
              rintro e w' ⟨rfl, rfl⟩
              refine ⟨_, rfl, r, Ext.refl hr, ?_⟩
              refine (@form_sint _ 0 0 1 _ ?_ _ _).2 rfl
              omega
            · have h : sel (isNum 0 x) (sel (isNum 30 y) (.ok (vS 0 1 0) s) .bad) .bad = R.ok v s' := h
              obtain ⟨h1, h⟩ := selR_good h
              obtain ⟨h2, h⟩ := selR_good h
              cases h
              have h1 := isNum_ok h1 e2
              have h2 := isNum_ok h2 e3
              subst h1 h2 hn
              refine .inr ⟨Tryz.call11 _ _, (withinH_calls _ _ w (ha true).1 (ha true).2 (by decide) (by decide)).mono ?_⟩
              rintro e w' ⟨rfl, rfl⟩
              refine ⟨_, rfl, r, Ext.refl hr, ?_⟩
              refine (@form_sint _ 0 1 0 _ ?_ _ _).2 rfl
              have : ((30 : Nat) : Int) = 30 := rfl
              rw [this]
              omega
  · cases h
theorem BH_ok [Sig] (hx : Sig.x = winH 30 (Sig.arg true)) (hy : Sig.y = winH Sig.x (Sig.arg false)) (ha : ∀ b, -9223372036854775808 ≤ Sig.arg b ∧ Sig.arg b ≤ 9223372036854775807) : BaseOK Tryz.prog BH := base_ok fun x h => by
  rcases List.mem_append.1 h with h | h
  · exact OL_ok x h
  · rcases List.mem_append.1 h with h | h
    · exact UL_ok x h
    · simp only [HL, List.mem_cons, List.not_mem_nil, or_false] at h
      rcases h with rfl | rfl
      · exact awake_is
      · exact withinD_is hx hy ha
theorem body_is : Tryz.f4.body = some bodyD := rfl
theorem dist_of (S : Sig) {N M : Nat} (hN : N ≤ 30) (hM : M ≤ N) (hxN : S.x = N) (hyM : S.y = M) (hx : S.x = winH 30 (S.arg true)) (hy : S.y = winH S.x (S.arg false)) (ha : ∀ b, -9223372036854775808 ≤ S.arg b ∧ S.arg b ≤ 9223372036854775807) (W : World) :
    Calls Tryz.prog 4 #[.int .i64 (S.arg true), .int .i64 (S.arg false)] W fun e w' => e = .returned (.bool true) ∧ Below W.heap.size W w' := by
  have hB := @BH_ok S hx hy ha
  have hc := main_chk
  unfold mainChk at hc
  split at hc
  · rename_i v s1 hd
    have hv := @sameV_eq S _ _ hc
    subst hv
    obtain ⟨x, e, h1, h2, h3⟩ := @doneR_ok S _ _ _ _ hd
    have hcm := @callM_ok S _ _ hB (fun _ _ => rfl) mixedP MO 1000000 200
    have hex : ∀ d, @CodeG S Tryz.prog KD W d (exD d) := fun d => CodeOK.toG (exec_ok (kn := fun _ => none) (fuel := 1000000) hcm (draw_ok mixedP hcm) 1000000 d (Regs.all (fun id ops dd g hg => by cases hg) d))
    have hm := @execH_ok S _ _ _ holeD exD hex bodyD (loops_one bodyD one_loop (hole_ok S hN hM hxN hyM))
    have hen : @EnvR S KD (fun _ => none) (enterE KD 0 .lf [.raw true, .raw false]) _ := @enter_ok S Tryz.f4 (keepT 4) (fun _ => none) [.raw true, .raw false] [.int .i64 (S.arg true), .int .i64 (S.arg false)] (.cons (.raw rfl) (.cons (.raw rfl) .nil))
    refine calls_of_wp Tryz.func4 body_is (hm _ _ x e s1 h1 (fun _ => none) W _ _ (@Ext.refl S _ _ _ (@rel_start S W)) hen fun q a' w' hfr he => ?_)
    obtain ⟨u, h4, h5⟩ := @results_ok S _ _ _ _ _ _ _ (@Ext.rel S _ _ _ _ _ _ hfr) he _ _ h3
    have hu : u = .bool true := by cases h5; rfl
    subst hu
    have hbel : Below W.heap.size W w' := by
      obtain ⟨_, _, _, hos, htp, hou, hsz, hfrm, _, _, _, _⟩ := hfr
      exact ⟨hos, htp, hou, hsz, fun k hk => hfrm k hk fun ⟨i, b, x, _, hx, _⟩ => (by cases hx)⟩
    rcases h2 with rfl | rfl
    · exact ⟨@EnvR.defers S _ _ _ _ he, _, h4, rfl, hbel⟩
    · exact ⟨@EnvR.defers S _ _ _ _ he, _, h4, rfl, hbel⟩
  · cases hc
end Go.Proofs.YtchkcnecgfolmaaGreatDoor.Ev
namespace Go.Proofs.YtchkcnecgfolmaaGreatDoor.Ev
open Go Go.Proofs Go.RowKit
set_option linter.unusedSectionVars false
set_option linter.unusedVariables false
theorem dist_calls {n m : Int} (hn : -9223372036854775808 ≤ n ∧ n ≤ 9223372036854775807) (hm : -9223372036854775808 ≤ m ∧ m ≤ 9223372036854775807) (W : World) :
    Calls Tryz.prog 4 #[.int .i64 n, .int .i64 m] W fun e w' => e = .returned (.bool true) ∧ Below W.heap.size W w' := by
  have a := winH_in 30 n (by decide)
  have b := winH_in (winH 30 n) m a.1
  have ar : ∀ t : Bool, -9223372036854775808 ≤ (if t then n else m) ∧ (if t then n else m) ≤ 9223372036854775807 := fun t => by cases t <;> assumption
  let S : Sig := ⟨winH 30 n, winH (winH 30 n) m, ⟨a.1, by omega⟩, ⟨b.1, by omega⟩, fun t => if t then n else m⟩
  exact dist_of S (N := (winH 30 n).toNat) (M := (winH (winH 30 n) m).toNat) (by omega) (by omega) (by show winH 30 n = _; omega) (by show winH (winH 30 n) m = _; omega) rfl rfl ar W
end Go.Proofs.YtchkcnecgfolmaaGreatDoor.Ev
