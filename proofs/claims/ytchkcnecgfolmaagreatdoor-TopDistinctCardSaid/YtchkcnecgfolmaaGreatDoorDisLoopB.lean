/-
  All rounds of the loop. No condition of ours.
-/
import Derived.Test.YtchkcnecgfolmaaGreatDoorDisR0
import Derived.Test.YtchkcnecgfolmaaGreatDoorDisR1
import Derived.Test.YtchkcnecgfolmaaGreatDoorDisR2
import Derived.Test.YtchkcnecgfolmaaGreatDoorDisR3
import Derived.Test.YtchkcnecgfolmaaGreatDoorDisR4
import Derived.Test.YtchkcnecgfolmaaGreatDoorDisR5
import Derived.Test.YtchkcnecgfolmaaGreatDoorDisR6
import Derived.Test.YtchkcnecgfolmaaGreatDoorDisR7
import Derived.Test.YtchkcnecgfolmaaGreatDoorDisR8
import Derived.Test.YtchkcnecgfolmaaGreatDoorDisR9
import Derived.Test.YtchkcnecgfolmaaGreatDoorDisR10
import Derived.Test.YtchkcnecgfolmaaGreatDoorDisR11
import Derived.WalkKit
import Derived.WalkSpells
import Derived.WalkLawsBesides
import Derived.Test.YtchkcnecgfolmaaGreatDoorDisRunE
namespace Go.Proofs.YtchkcnecgfolmaaGreatDoor.Ev
open Go Go.Proofs
set_option linter.unusedVariables false
theorem add_all : ∀ i : Nat, i < 30 → addChk i = true
  | 0, _ => r_add_0
  | 1, _ => r_add_1
  | 2, _ => r_add_2
  | 3, _ => r_add_3
  | 4, _ => r_add_4
  | 5, _ => r_add_5
  | 6, _ => r_add_6
  | 7, _ => r_add_7
  | 8, _ => r_add_8
  | 9, _ => r_add_9
  | 10, _ => r_add_10
  | 11, _ => r_add_11
  | 12, _ => r_add_12
  | 13, _ => r_add_13
  | 14, _ => r_add_14
  | 15, _ => r_add_15
  | 16, _ => r_add_16
  | 17, _ => r_add_17
  | 18, _ => r_add_18
  | 19, _ => r_add_19
  | 20, _ => r_add_20
  | 21, _ => r_add_21
  | 22, _ => r_add_22
  | 23, _ => r_add_23
  | 24, _ => r_add_24
  | 25, _ => r_add_25
  | 26, _ => r_add_26
  | 27, _ => r_add_27
  | 28, _ => r_add_28
  | 29, _ => r_add_29
  | i + 30, h => absurd h (by omega)
theorem tak_all0 : ∀ n : Nat, 2 ≤ n → n + 0 ≤ 30 → takChk n 0 = true
  | 0, h, _ => absurd h (by omega)
  | 1, h, _ => absurd h (by omega)
  | 2, _, _ => r_tak_2_0
  | 3, _, _ => r_tak_3_0
  | 4, _, _ => r_tak_4_0
  | 5, _, _ => r_tak_5_0
  | 6, _, _ => r_tak_6_0
  | 7, _, _ => r_tak_7_0
  | 8, _, _ => r_tak_8_0
  | 9, _, _ => r_tak_9_0
  | 10, _, _ => r_tak_10_0
  | 11, _, _ => r_tak_11_0
  | 12, _, _ => r_tak_12_0
  | 13, _, _ => r_tak_13_0
  | 14, _, _ => r_tak_14_0
  | 15, _, _ => r_tak_15_0
  | 16, _, _ => r_tak_16_0
  | 17, _, _ => r_tak_17_0
  | 18, _, _ => r_tak_18_0
  | 19, _, _ => r_tak_19_0
  | 20, _, _ => r_tak_20_0
  | 21, _, _ => r_tak_21_0
  | 22, _, _ => r_tak_22_0
  | 23, _, _ => r_tak_23_0
  | 24, _, _ => r_tak_24_0
  | 25, _, _ => r_tak_25_0
  | 26, _, _ => r_tak_26_0
  | 27, _, _ => r_tak_27_0
  | 28, _, _ => r_tak_28_0
  | 29, _, _ => r_tak_29_0
  | 30, _, _ => r_tak_30_0
  | n + 31, _, h => absurd h (by omega)
theorem tak_all1 : ∀ n : Nat, 2 ≤ n → n + 1 ≤ 30 → takChk n 1 = true
  | 0, h, _ => absurd h (by omega)
  | 1, h, _ => absurd h (by omega)
  | 2, _, _ => r_tak_2_1
  | 3, _, _ => r_tak_3_1
  | 4, _, _ => r_tak_4_1
  | 5, _, _ => r_tak_5_1
  | 6, _, _ => r_tak_6_1
  | 7, _, _ => r_tak_7_1
  | 8, _, _ => r_tak_8_1
  | 9, _, _ => r_tak_9_1
  | 10, _, _ => r_tak_10_1
  | 11, _, _ => r_tak_11_1
  | 12, _, _ => r_tak_12_1
  | 13, _, _ => r_tak_13_1
  | 14, _, _ => r_tak_14_1
  | 15, _, _ => r_tak_15_1
  | 16, _, _ => r_tak_16_1
  | 17, _, _ => r_tak_17_1
  | 18, _, _ => r_tak_18_1
  | 19, _, _ => r_tak_19_1
  | 20, _, _ => r_tak_20_1
  | 21, _, _ => r_tak_21_1
  | 22, _, _ => r_tak_22_1
  | 23, _, _ => r_tak_23_1
  | 24, _, _ => r_tak_24_1
  | 25, _, _ => r_tak_25_1
  | 26, _, _ => r_tak_26_1
  | 27, _, _ => r_tak_27_1
  | 28, _, _ => r_tak_28_1
  | 29, _, _ => r_tak_29_1
  | n + 30, _, h => absurd h (by omega)
theorem tak_all2 : ∀ n : Nat, 2 ≤ n → n + 2 ≤ 30 → takChk n 2 = true
  | 0, h, _ => absurd h (by omega)
  | 1, h, _ => absurd h (by omega)
  | 2, _, _ => r_tak_2_2
  | 3, _, _ => r_tak_3_2
  | 4, _, _ => r_tak_4_2
  | 5, _, _ => r_tak_5_2
  | 6, _, _ => r_tak_6_2
  | 7, _, _ => r_tak_7_2
  | 8, _, _ => r_tak_8_2
  | 9, _, _ => r_tak_9_2
  | 10, _, _ => r_tak_10_2
  | 11, _, _ => r_tak_11_2
  | 12, _, _ => r_tak_12_2
  | 13, _, _ => r_tak_13_2
  | 14, _, _ => r_tak_14_2
  | 15, _, _ => r_tak_15_2
  | 16, _, _ => r_tak_16_2
  | 17, _, _ => r_tak_17_2
  | 18, _, _ => r_tak_18_2
  | 19, _, _ => r_tak_19_2
  | 20, _, _ => r_tak_20_2
  | 21, _, _ => r_tak_21_2
  | 22, _, _ => r_tak_22_2
  | 23, _, _ => r_tak_23_2
  | 24, _, _ => r_tak_24_2
  | 25, _, _ => r_tak_25_2
  | 26, _, _ => r_tak_26_2
  | 27, _, _ => r_tak_27_2
  | 28, _, _ => r_tak_28_2
  | n + 29, _, h => absurd h (by omega)
theorem tak_all : ∀ n p : Nat, 2 ≤ n → p < 3 → n + p ≤ 30 → takChk n p = true
  | n, 0, h, _, h1 => tak_all0 n h h1
  | n, 1, h, _, h1 => tak_all1 n h h1
  | n, 2, h, _, h1 => tak_all2 n h h1
  | n, p + 3, _, h, _ => absurd h (by omega)
theorem las_all : ∀ p : Nat, p < 3 → lasChk p = true
  | 0, _ => r_las_0
  | 1, _ => r_las_1
  | 2, _ => r_las_2
  | p + 3, h => absurd h (by omega)
end Go.Proofs.YtchkcnecgfolmaaGreatDoor.Ev
namespace Go.Proofs.YtchkcnecgfolmaaGreatDoor.Ev
open Go Go.Proofs Go.RowKit
set_option linter.unusedSectionVars false
set_option linter.unusedVariables false
/-- a number brought into 0 .. h -/
def winH (h n : Int) : Int := if n.tmod (h + 1) < 0 then n.tmod (h + 1) + (h + 1) else n.tmod (h + 1)
theorem winH_in (h n : Int) (h0 : 0 ≤ h) : 0 ≤ winH h n ∧ winH h n ≤ h := by
  have b1 : -(h + 1) < n.tmod (h + 1) := Int.lt_tmod_of_pos n (by omega)
  have b2 : n.tmod (h + 1) < h + 1 := Int.tmod_lt_of_pos n (by omega)
  unfold winH
  by_cases h : n.tmod (h + 1) < 0
  · rw [if_pos h]; omega
  · rw [if_neg h]; omega
theorem withinH_calls (n h : Int) (w : World) (n0 : -9223372036854775808 ≤ n) (n1 : n ≤ 9223372036854775807) (h0 : 0 ≤ h) (h1 : h ≤ 1000) :
    Calls Tryz.prog 11 #[.int .i64 n, .int .i64 0, .int .i64 h] w fun e w' => e = .returned (.int .i64 (winH h n)) ∧ w' = w := by
  have b1 : -(h + 1) < n.tmod (h + 1) := Int.lt_tmod_of_pos n (by omega)
  have b2 : n.tmod (h + 1) < h + 1 := Int.tmod_lt_of_pos n (by omega)
  have hne : ¬ h + 1 = 0 := by omega
  unfold winH
  obtain ⟨r, hr⟩ : ∃ r, n.tmod (h + 1) = r := ⟨_, rfl⟩
  rw [hr] at b1 b2 ⊢
  by_cases hn : r < 0
  · rw [if_pos hn]
    go_enter Tryz.func11, Tryz.ntmps11
    go_wp2_with fail
    go_ret
    exact ⟨by simp; omega, rfl⟩
  · rw [if_neg hn]
    go_enter Tryz.func11, Tryz.ntmps11
    go_wp2_with fail
    go_ret
    exact ⟨by simp, rfl⟩
end Go.Proofs.YtchkcnecgfolmaaGreatDoor.Ev
namespace Go.Proofs.YtchkcnecgfolmaaGreatDoor.Ev
open Go Go.Proofs
set_option linter.unusedVariables false
set_option linter.unusedSectionVars false
set_option maxRecDepth 1000000
/-- the same state under other unknown numbers -/
noncomputable def cnvA (n : Nat) : Bool := likeL false (.negSucc 0) (putL (stOf 0 n (vN (n + 2))) .lf) (stOf 0 n (vN (n + 2)))
noncomputable def cnvR (n : Nat) : Bool := likeL true (.ofNat 0) (putL (stOf 0 n (vN (n + 2))) .lf) (stOf 0 n (vS (n + 2) 6 0))
theorem cnvA_all : ∀ n : Nat, n < 31 → cnvA n = true := by decide +kernel
theorem cnvR_all : ∀ n : Nat, n < 31 → cnvR n = true := by decide +kernel
theorem kept_D : Kept KD := ⟨by decide +kernel, by decide +kernel, by decide +kernel, by decide +kernel⟩
theorem runD4_ok [Sig] : CodeOK Tryz.prog KD LD runD4 :=
  exec_ok (kn := fun _ => none) (fuel := 1000000) (callM_ok BX_ok (fun _ _ => rfl) mixedP MO 1000000 200) (draw_ok mixedP (callM_ok BX_ok (fun _ _ => rfl) mixedP MO 1000000 200)) 1000000 LD (Regs.all (fun id ops d g hg => by cases hg) LD)
theorem At.conv {S S' : Sig} {W0 : World} {st st' : List (Nat × ABlk)} {k : Nat} {a : Act} {w : World} {z : Bool} {d : Int} (h : likeL z d (putL st .lf) st' = true) (hz : z = true → S'.x = 0) (hd : z = false → S'.x = S.x + d) (hat : At S W0 st k a w) : At S' W0 st' k a w := by
  obtain ⟨r, h1, h2⟩ := hat
  exact ⟨r, Ext.like hz hd h1 (fun j b hb => likeL_ok hz hd h j b (putL_in hb)) rfl, VR.ptr_sig h2⟩
abbrev sig0 (x y : Nat) (hx : x ≤ 1000) (hy : y ≤ 1000) : Sig := ⟨x, y, ⟨by omega, by omega⟩, ⟨by omega, by omega⟩, fun _ => 0⟩
/-- the state ahead of round i -/
def AtI (W0 : World) (N M i : Nat) (a : Act) (w : World) : Prop :=
  (i < N → ∀ (hx : N - i - 1 ≤ 1000) (hy : M ≤ 1000), At (sig0 (N - i - 1) M hx hy) W0 (stOf 0 i (vN (i + 2))) (mOf 0 i) a w) ∧
  (N ≤ i → ∀ j, i = N + j → ∀ (hx : j / 3 ≤ 1000) (hy : M - j - 1 ≤ 1000), At (sig0 (j / 3) (M - j - 1) hx hy) W0 (stOf (j % 3) (N - j) (vS (N - j + 2 * (j % 3) + 2) 6 0)) (mOf (j % 3) (N - j)) a w)
structure InvI (W0 : World) (N M i : Nat) (a : Act) (w : World) : Prop where
  nums : Nums KD N M i a
  blank : ∀ S : Sig, @From S W0 (fun _ => none) ⟨.lf, 0⟩ w
  at_ : i < N + M → AtI W0 N M i a w
theorem wp_mono' {c : Code} {Q R : Exit → Act → World → Prop} {a : Act} {w : World} (h : c.wp Tryz.prog Q a w) (hQ : ∀ x a w, Q x a w → R x a w) : c.wp Tryz.prog R a w := by
  intro b k cs
  obtain ⟨e, a', w', h1, h2⟩ := h b k cs
  exact ⟨e, a', w', hQ _ _ _ h1, h2⟩
theorem stOf3 (n : Nat) (v : AVal) : stOf 3 n v = stOf 0 n v := rfl
theorem mOf3 (n : Nat) : mOf 3 n = mOf 0 n := rfl
theorem add_step {W0 : World} {N M i : Nat} (hN : N ≤ 30) (hM : M ≤ N) (hi : i < N) {a : Act} {w : World} (h : InvI W0 N M i a w) :
    LD.wp Tryz.prog (fun x a w => x = .normal ∧ InvI W0 N M (i + 1) a w) a w := by
  have hat := (h.at_ (by omega)).1 hi (by omega) (by omega)
  have hc := add_all i (by omega)
  refine wp_mono' (round_ok (S := sig0 (N - i - 1) M (by omega) (by omega)) (S' := sig0 (N - i - 1) M (by omega) (by omega)) (n := N) (m := M) (i := i) (i' := ((i + 1 : Nat) : Int)) (@runD4_ok (sig0 (N - i - 1) M (by omega) (by omega))) kept_D hc (fun e => by cases e) (fun _ => by show _ = _ + Int.ofNat 0; simp) ?_ ?_ (@form_int (sig0 (N - i - 1) M (by omega) (by omega)) _) (@form_int (sig0 (N - i - 1) M (by omega) (by omega)) _) h.nums hat) ?_
  · refine @form_sint (sig0 (N - i - 1) M (by omega) (by omega)) _ _ _ _ ?_
    show (N : Int) = Int.ofNat (i + 1) + Int.ofNat 1 * ((N - i - 1 : Nat) : Int) + Int.ofNat 0 * (M : Int)
    simp only [Int.ofNat_eq_natCast]
    omega
  · refine @form_sint (sig0 (N - i - 1) M (by omega) (by omega)) _ _ _ _ ?_
    show (M : Int) = Int.ofNat 0 + Int.ofNat 0 * ((N - i - 1 : Nat) : Int) + Int.ofNat 1 * (M : Int)
    simp only [Int.ofNat_eq_natCast]
    omega
  · rintro x a' w' ⟨hx, hn, hat'⟩
    refine ⟨hx, hn, fun S => ?_, fun _ => ⟨fun h1 hx1 hy1 => ?_, fun h1 j hj hx1 hy1 => ?_⟩⟩
    · obtain ⟨r, h1, _⟩ := hat'
      exact From.blank h1
    · refine At.conv (cnvA_all (i + 1) (by omega)) (fun e => by cases e) (fun _ => ?_) hat'
      show ((N - (i + 1) - 1 : Nat) : Int) = ((N - i - 1 : Nat) : Int) + Int.negSucc 0
      simp only [Int.negSucc_eq]
      omega
    · have hj0 : j = 0 := by omega
      subst hj0
      have hNi : N = i + 1 := by omega
      have hcv := cnvR_all (i + 1) (by omega)
      have e1 : stOf (0 % 3) (N - 0) (vS (N - 0 + 2 * (0 % 3) + 2) 6 0) = stOf 0 (i + 1) (vS (i + 1 + 2) 6 0) := by rw [hNi]; rfl
      have e2 : mOf (0 % 3) (N - 0) = mOf 0 (i + 1) := by rw [hNi]; rfl
      rw [e1, e2]
      exact At.conv hcv (fun _ => rfl) (fun e => by cases e) hat'
theorem tak_one {W0 : World} {N M i : Nat} (p u len y x' y' : Nat) (hp : p < 3) (hl : 2 ≤ len) (h30 : len + p ≤ 30) (hN : N = len + p + 3 * u) (hM : M = p + 1 + 3 * u + y) (hi : i = len + 2 * p + 6 * u)
    (hx : u ≤ 1000) (hy : y ≤ 1000) (hx' : x' ≤ 1000) (hy' : y' ≤ 1000) (hxx : (x' : Int) = (u : Int) + sel (Nat.beq p 2) (.ofNat 1) (.ofNat 0)) {a : Act} {w : World} (hn : Nums KD N M i a)
    (hat : At (sig0 u y hx hy) W0 (stOf p len (vS (len + 2 * p + 2) 6 0)) (mOf p len) a w) :
    LD.wp Tryz.prog (fun x a w => x = .normal ∧ Nums KD N M ((i + 1 : Nat) : Int) a ∧ At (sig0 x' y' hx' hy') W0 (stOf (p + 1) (Nat.sub len 1) (vS (sel (Nat.beq p 2) (Nat.sub (len + 2 * p + 3) 6) (len + 2 * p + 3)) 6 0)) (mOf (p + 1) (Nat.sub len 1)) a w) a w := by
  refine round_ok (S := sig0 u y hx hy) (S' := sig0 x' y' hx' hy') (n := N) (m := M) (i := i) (i' := ((i + 1 : Nat) : Int)) (@runD4_ok (sig0 u y hx hy)) kept_D (tak_all len p hl hp h30) (fun e => by cases e) (fun _ => hxx) ?_ ?_ ?_ ?_ hn hat
  · refine @form_sint (sig0 u y hx hy) _ _ _ _ ?_
    show (N : Int) = Int.ofNat (len + p) + Int.ofNat 3 * (u : Int) + Int.ofNat 0 * (y : Int)
    simp only [Int.ofNat_eq_natCast]
    omega
  · refine @form_sint (sig0 u y hx hy) _ _ _ _ ?_
    show (M : Int) = Int.ofNat (p + 1) + Int.ofNat 3 * (u : Int) + Int.ofNat 1 * (y : Int)
    simp only [Int.ofNat_eq_natCast]
    omega
  · refine @form_sint (sig0 u y hx hy) _ _ _ _ ?_
    show (i : Int) = Int.ofNat (len + 2 * p) + Int.ofNat 6 * (u : Int) + Int.ofNat 0 * (y : Int)
    simp only [Int.ofNat_eq_natCast]
    omega
  · refine @form_sint (sig0 u y hx hy) _ _ _ _ ?_
    show ((i + 1 : Nat) : Int) = Int.ofNat (len + 2 * p + 1) + Int.ofNat 6 * (u : Int) + Int.ofNat 0 * (y : Int)
    simp only [Int.ofNat_eq_natCast]
    omega
theorem las_one {W0 : World} {N M i : Nat} (p u y : Nat) (hp : p < 3) (hN : N = 1 + p + 3 * u) (hM : M = p + 1 + 3 * u + y) (hi : i = 1 + 2 * p + 6 * u)
    (hx : u ≤ 1000) (hy : y ≤ 1000) {a : Act} {w : World} (hn : Nums KD N M i a)
    (hat : At (sig0 u y hx hy) W0 (stOf p 1 (vS (2 * p + 3) 6 0)) (mOf p 1) a w) :
    LD.wp Tryz.prog (fun x a w => x = .normal ∧ Nums KD N M ((i + 1 : Nat) : Int) a ∧ @From (sig0 u y hx hy) W0 (fun _ => none) ⟨.lf, 0⟩ w) a w := by
  refine end_ok (S := sig0 u y hx hy) (n := N) (m := M) (i := i) (i' := ((i + 1 : Nat) : Int)) (@runD4_ok (sig0 u y hx hy)) kept_D (las_all p hp) ?_ ?_ ?_ ?_ hn hat
  · refine @form_sint (sig0 u y hx hy) _ _ _ _ ?_
    show (N : Int) = Int.ofNat (1 + p) + Int.ofNat 3 * (u : Int) + Int.ofNat 0 * (y : Int)
    simp only [Int.ofNat_eq_natCast]
    omega
  · refine @form_sint (sig0 u y hx hy) _ _ _ _ ?_
    show (M : Int) = Int.ofNat (p + 1) + Int.ofNat 3 * (u : Int) + Int.ofNat 1 * (y : Int)
    simp only [Int.ofNat_eq_natCast]
    omega
  · refine @form_sint (sig0 u y hx hy) _ _ _ _ ?_
    show (i : Int) = Int.ofNat (2 * p + 1) + Int.ofNat 6 * (u : Int) + Int.ofNat 0 * (y : Int)
    simp only [Int.ofNat_eq_natCast]
    omega
  · refine @form_sint (sig0 u y hx hy) _ _ _ _ ?_
    show ((i + 1 : Nat) : Int) = Int.ofNat (2 * p + 2) + Int.ofNat 6 * (u : Int) + Int.ofNat 0 * (y : Int)
    simp only [Int.ofNat_eq_natCast]
    omega
theorem tak_step {W0 : World} {N M i : Nat} (hN : N ≤ 30) (hM : M ≤ N) (hi : N ≤ i) (hi2 : i < N + M) {a : Act} {w : World} (h : InvI W0 N M i a w) :
    LD.wp Tryz.prog (fun x a w => x = .normal ∧ InvI W0 N M (i + 1) a w) a w := by
  obtain ⟨j, rfl⟩ : ∃ j, i = N + j := ⟨i - N, by omega⟩
  have hat := (h.at_ hi2).2 hi j rfl (by omega) (by omega)
  have hp : j % 3 < 3 := Nat.mod_lt _ (by omega)
  have hj : j = j % 3 + 3 * (j / 3) := (Nat.mod_add_div j 3).symm
  by_cases h1 : N - j = 1
  · rw [h1] at hat
    have e1 : 1 + 2 * (j % 3) + 2 = 2 * (j % 3) + 3 := by omega
    rw [e1] at hat
    refine wp_mono' (las_one (j % 3) (j / 3) (M - j - 1) hp (by omega) (by omega) (by omega) (by omega) (by omega) h.nums hat) ?_
    rintro x a' w' ⟨hx, hn, hb⟩
    exact ⟨hx, hn, fun S => From.blank hb, fun hlt => absurd hlt (by omega)⟩
  · by_cases h2 : j % 3 = 2
    · refine wp_mono' (tak_one (j % 3) (j / 3) (N - j) (M - j - 1) (j / 3 + 1) (M - j - 2) hp (by omega) (by omega) (by omega) (by omega) (by omega) (by omega) (by omega) (by omega) (by omega) (by rw [h2]; rfl) h.nums hat) ?_
      rintro x a' w' ⟨hx, hn, hat'⟩
      refine ⟨hx, hn, fun S => ?_, fun _ => ⟨fun h3 => absurd h3 (by omega), fun _ j' hj' hx1 hy1 => ?_⟩⟩
      · obtain ⟨r, h3, _⟩ := hat'
        exact From.blank h3
      · obtain rfl : j' = j + 1 := by omega
        rw [h2] at hat'
        have q1 : (j + 1) / 3 = j / 3 + 1 := by omega
        have q2 : (j + 1) % 3 = 0 := by omega
        have q3 : M - (j + 1) - 1 = M - j - 2 := by omega
        have q4 : N - (j + 1) + 2 * 0 + 2 = N - j + 2 * 2 + 3 - 6 := by omega
        simp only [q1, q2, q3, q4]
        exact hat'
    · have q0 : Nat.beq (j % 3) 2 = false := by
        cases hb : Nat.beq (j % 3) 2
        · rfl
        · exact absurd (Nat.eq_of_beq_eq_true hb) h2
      refine wp_mono' (tak_one (j % 3) (j / 3) (N - j) (M - j - 1) (j / 3) (M - j - 2) hp (by omega) (by omega) (by omega) (by omega) (by omega) (by omega) (by omega) (by omega) (by omega) (by rw [q0]; show _ = _ + Int.ofNat 0; simp) h.nums hat) ?_
      rintro x a' w' ⟨hx, hn, hat'⟩
      refine ⟨hx, hn, fun S => ?_, fun _ => ⟨fun h3 => absurd h3 (by omega), fun _ j' hj' hx1 hy1 => ?_⟩⟩
      · obtain ⟨r, h3, _⟩ := hat'
        exact From.blank h3
      · obtain rfl : j' = j + 1 := by omega
        rw [q0] at hat'
        have q1 : (j + 1) / 3 = j / 3 := by omega
        have q2 : (j + 1) % 3 = j % 3 + 1 := by omega
        have q3 : M - (j + 1) - 1 = M - j - 2 := by omega
        have q4 : N - (j + 1) + 2 * (j % 3 + 1) + 2 = N - j + 2 * (j % 3) + 3 := by omega
        simp only [q1, q2, q3, q4]
        exact hat'
end Go.Proofs.YtchkcnecgfolmaaGreatDoor.Ev
namespace Go.Proofs.YtchkcnecgfolmaaGreatDoor.Ev
open Go Go.Proofs
set_option linter.unusedVariables false
set_option linter.unusedSectionVars false
set_option maxRecDepth 1000000
noncomputable def env3 (v0 v1 v6 : AVal) : Env := (((Tr.lf : Env).set 0 (some v0)).set 1 (some v1)).set 6 (some v6)
theorem exit_chk : isExit0 (runD4 (env3 (vS 0 1 0) (vS 0 0 1) (vS 0 1 1)) ⟨.lf, 0⟩) = true := by decide +kernel
theorem env3_ok [Sig] {K : Tmps} (hk : Kept K) {n m i : Int} {a : Act} (hn : Nums K n m i a) {r : Rho} {v0 v1 v6 : AVal} (h0 : Form v0 n) (h1 : Form v1 m) (h6 : Form v6 i) : EnvR K r (env3 v0 v1 v6) a := by
  refine ⟨fun t v hv => ?_, hn.size, hn.defers⟩
  unfold env3 at hv
  rw [get_set] at hv
  by_cases e6 : 6 = t
  · rw [if_pos e6] at hv
    cases hv
    subst e6
    exact ⟨hk.k6, (h6 _ _).2 hn.i⟩
  · rw [if_neg e6, get_set] at hv
    by_cases e1 : 1 = t
    · rw [if_pos e1] at hv
      cases hv
      subst e1
      exact ⟨hk.k1, (h1 _ _).2 hn.m⟩
    · rw [if_neg e1, get_set] at hv
      by_cases e0 : 0 = t
      · rw [if_pos e0] at hv
        cases hv
        subst e0
        exact ⟨hk.k0, (h0 _ _).2 hn.n⟩
      · rw [if_neg e0, get_lf] at hv
        cases hv
/-- what holds behind the loop -/
structure Over (W0 : World) (a : Act) (w : World) : Prop where
  blank : ∀ S : Sig, @From S W0 (fun _ => none) ⟨.lf, 0⟩ w
  size : KD.n ≤ a.tmps.size
  defers : a.defers = []
theorem exit_step {W0 : World} {N M i : Nat} (hN : N ≤ 30) (hM : M ≤ N) (hi : i = N + M) {a : Act} {w : World} (h : InvI W0 N M i a w) :
    LD.wp Tryz.prog (fun x a w => x = .exit 0 ∧ Over W0 a w) a w := by
  have hc := exit_chk
  have he := @env3_ok (sig0 N M (by omega) (by omega)) KD kept_D N M i a h.nums (fun _ => none) (vS 0 1 0) (vS 0 0 1) (vS 0 1 1)
    (@form_sint (sig0 N M (by omega) (by omega)) _ _ _ _ (by show (N : Int) = Int.ofNat 0 + Int.ofNat 1 * (N : Int) + Int.ofNat 0 * (M : Int); simp only [Int.ofNat_eq_natCast]; omega))
    (@form_sint (sig0 N M (by omega) (by omega)) _ _ _ _ (by show (M : Int) = Int.ofNat 0 + Int.ofNat 0 * (N : Int) + Int.ofNat 1 * (M : Int); simp only [Int.ofNat_eq_natCast]; omega))
    (@form_sint (sig0 N M (by omega) (by omega)) _ _ _ _ (by show (i : Int) = Int.ofNat 0 + Int.ofNat 1 * (N : Int) + Int.ofNat 1 * (M : Int); simp only [Int.ofNat_eq_natCast]; omega))
  have hb := h.blank (sig0 N M (by omega) (by omega))
  cases hf : runD4 (env3 (vS 0 1 0) (vS 0 0 1) (vS 0 1 1)) ⟨.lf, 0⟩ with
  | bad => rw [hf] at hc; cases hc
  | ok x e1 s1 =>
    rw [hf] at hc
    cases x with
    | normal => cases hc
    | goto l => cases hc
    | ret => cases hc
    | exit id =>
      have hc : Nat.beq id 0 = true := hc
      have hc := Nat.eq_of_beq_eq_true hc
      subst hc
      refine @runD4_ok (sig0 N M (by omega) (by omega)) _ _ _ _ _ hf _ w a _ (@Ext.rel (sig0 N M (by omega) (by omega)) _ _ _ _ _ _ hb) he fun q a' w' hx he' => ⟨rfl, fun S => ?_, @EnvR.size (sig0 N M (by omega) (by omega)) _ _ _ _ he', @EnvR.defers (sig0 N M (by omega) (by omega)) _ _ _ _ he'⟩
      exact From.blank (@Ext.trans (sig0 N M (by omega) (by omega)) _ _ _ _ _ _ _ _ _ hb hx)
theorem loop_inv {W0 : World} {N M : Nat} (hN : N ≤ 30) (hM : M ≤ N) {Q : Exit → Act → World → Prop} (hQ : ∀ a w, Over W0 a w → Q (.exit 0) a w) : ∀ (k i : Nat), i + k = N + M → ∀ (a : Act) (w : World), InvI W0 N M i a w → Code.rounds Tryz.prog LD Q (k + 1) a w
  | 0, i, hi, a, w, h => by
    rw [rounds_succ]
    refine wp_mono' (exit_step hN hM (by omega) h) ?_
    rintro x a' w' ⟨rfl, ho⟩
    exact hQ a' w' ho
  | k + 1, i, hi, a, w, h => by
    rw [rounds_succ]
    have hs : LD.wp Tryz.prog (fun x a w => x = .normal ∧ InvI W0 N M (i + 1) a w) a w := by
      by_cases h1 : i < N
      · exact add_step hN hM h1 h
      · exact tak_step hN hM (by omega) (by omega) h
    refine wp_mono' hs ?_
    rintro x a' w' ⟨rfl, hn⟩
    exact loop_inv hN hM hQ k (i + 1) (by omega) a' w' hn
/-- is a state the loop's start? -/
noncomputable def holeChk (e : Env) (s : St) : Bool := rndChk false (.negSucc 0) (vS 0 1 0) (vS 0 0 1) (vN 0) st0 31 (.ok .normal e s)
/-- the loop as one step -/
noncomputable def holeD (e : Env) (s : St) : Res := sel (holeChk e s) (.ok (.exit 0) .lf ⟨.lf, 0⟩) .bad
theorem st0_is : stOf 0 0 (vN (0 + 2)) = st0 := rfl
theorem hole_ok (S : Sig) {W0 : World} {N M : Nat} (hN : N ≤ 30) (hM : M ≤ N) (hx : S.x = N) (hy : S.y = M) : @CodeG S Tryz.prog KD W0 (.loop LD) holeD := by
  intro e s x e' s' h r w a Q hr he hQ
  unfold holeD at h
  cases hc : holeChk e s with
  | false => rw [hc] at h; cases h
  | true =>
    rw [hc] at h
    cases h
    have chk : sel (hasV e 0 (vS 0 1 0)) (sel (hasV e 1 (vS 0 0 1)) (sel (hasV e 6 (vN 0)) (canChk false (.negSucc 0) st0 31 (canR ⟨.lf, 0⟩ [] (V.ret s (V.ofO (e.get 5))))) false) false) false = true := hc
    obtain ⟨c0, chk⟩ := sel_and chk
    obtain ⟨c1, chk⟩ := sel_and chk
    obtain ⟨c6, chk⟩ := sel_and chk
    have hn : Nums KD N M ((0 : Nat) : Int) a := @nums_of S KD N M ((0 : Nat) : Int) a r e he _ _ _ (@hasV_get S _ _ _ c0) (@hasV_get S _ _ _ c1) (@hasV_get S _ _ _ c6)
      (@form_sint S _ _ _ _ (by rw [hx, hy]; show (N : Int) = Int.ofNat 0 + Int.ofNat 1 * (N : Int) + Int.ofNat 0 * (M : Int); simp only [Int.ofNat_eq_natCast]; omega))
      (@form_sint S _ _ _ _ (by rw [hx, hy]; show (M : Int) = Int.ofNat 0 + Int.ofNat 0 * (N : Int) + Int.ofNat 1 * (M : Int); simp only [Int.ofNat_eq_natCast]; omega))
      (@form_int S _)
    have hb : ∀ S' : Sig, @From S' W0 (fun _ => none) ⟨.lf, 0⟩ w := fun S' => From.blank hr
    refine wp_loop_rounds (N + M + 1) (loop_inv hN hM (fun a' w' ho => ?_) (N + M) 0 (by omega) a w ⟨hn, hb, fun hlt => ⟨fun h1 hx1 hy1 => ?_, fun h1 => absurd hlt (by omega)⟩⟩)
    · exact hQ (fun _ => none) a' w' (ho.blank S) (@EnvR.mk S _ _ _ _ (fun t v hv => by rw [get_lf] at hv; cases hv) ho.size ho.defers)
    · cases hcan : canR ⟨.lf, 0⟩ [] (V.ret s (V.ofO (e.get 5))) with
      | bad => rw [hcan] at chk; cases chk
      | mk v' post mm =>
        rw [hcan] at chk
        have chk : sel (sameV v' (.ptr 0 0)) (sel (Nat.beq mm 31) (likeL false (.negSucc 0) (putL post .lf) st0) false) false = true := chk
        obtain ⟨d1, chk⟩ := sel_and chk
        obtain ⟨d2, d3⟩ := sel_and chk
        have d1 := @sameV_eq S _ _ d1
        have d2 := Nat.eq_of_beq_eq_true d2
        subst d1
        obtain ⟨v, s2, L, e2, e3, e4, e5, e6, e7, e8⟩ := canR_ok hcan
        have g5 : e.get 5 = some v ∧ s2 = s := by
          cases hg : e.get 5 with
          | none => rw [hg] at e2; cases e2
          | some u => rw [hg] at e2; cases e2; exact ⟨rfl, rfl⟩
        obtain ⟨g5, rfl⟩ := g5
        have h3 := @canon_ok S _ _ _ _ _ _ (@rel_start S W0) hr L [] e3 e4 e5
        rw [← e7] at h3
        have h3 : @Ext S (fun _ => none) ⟨.lf, 0⟩ W0 (r.names 0 L) ⟨putL post .lf, 0 + L.length⟩ w := h3
        have hz : (false = true → (sig0 (N - 0 - 1) M hx1 hy1).x = 0) := fun e => by cases e
        have hd : (false = false → (sig0 (N - 0 - 1) M hx1 hy1).x = S.x + Int.negSucc 0) := fun _ => by
          rw [hx]
          show ((N - 0 - 1 : Nat) : Int) = (N : Int) + Int.negSucc 0
          simp only [Int.negSucc_eq]
          omega
        refine ⟨r.names 0 L, Ext.like hz hd h3 (fun j b hb => likeL_ok hz hd d3 j b (putL_in hb)) (d2.symm.trans e8), ?_⟩
        exact VR.ptr_sig (@VR.ren S _ _ _ (names_ok r 0 L) _ _ (@EnvR.env S _ _ _ _ he 5 v g5).2 _ e6)
end Go.Proofs.YtchkcnecgfolmaaGreatDoor.Ev
