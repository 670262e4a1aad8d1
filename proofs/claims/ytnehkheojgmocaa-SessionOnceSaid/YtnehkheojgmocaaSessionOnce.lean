/-
  SessionOnce: requests that come in order are done once each, and answered the same again; clients don't touch one another: the walk through the law.
-/
import Derived.Test.YtnehkheojgmocaaSessionKnown
import Derived.Test.YtnehkheojgmocaaArgs
namespace Go.Proofs.Ytnehkheojgmocaa
open Go.RowKit
set_option linter.unusedVariables false
set_option linter.unusedSimpArgs false

theorem rem_nat (m d : Nat) : (m : Int).tmod (d : Int) = ((m % d : Nat) : Int) := by
  rw [Int.tmod_eq_emod_of_nonneg (by omega)]; omega

set_option maxRecDepth 100000 in
set_option maxHeartbeats 4000000 in
theorem once_walk {w : World} {A : Option Addr} {n c : Nat} {xs : List Int} {client : Int} (ht : IntsArg w A n c xs) (hcl : -9223372036854775808 ≤ client ∧ client ≤ 9223372036854775807) :
    Calls Try.prog 4 #[.slice A n c, .int .i64 client] w (Holds w) := by
  have hrep : ∀ y a z, rep y a z = .agg #[.int .i64 y, .int .i64 a, .string z] := fun _ _ _ => rfl
  obtain ⟨hcs, hnc, hcm, hxs⟩ := ht
  have HXS := Lib.hid hxs
  clear hxs
  go_enter Try.func4, Try.ntmps4
  go_wp2_with fail
  refine (Session_new _).mono ?_
  rintro e w1 ⟨rfl, hn, hc1⟩
  obtain ⟨T, hT⟩ : ∃ T, w.heap.size = T := ⟨_, rfl⟩
  rw [hT] at hn ⊢
  have HT := Lib.hid hT
  clear hT
  go_upto_if 17 with fail
  go_cut [1] (fun s wx => ∃ m : Nat, (m : Int) ≤ 9223372036854775807 ∧ s = .int .i64 (m : Int) ∧ w1 = wx)
  case first =>
    by_cases h : client < 0
    · have v1 := IntWalk.i64_in (client + 1) (by omega)
      have v2 := IntWalk.i64_in (-(client + 1)) (by omega)
      go_wp2_with fail
      go_meet
      exact ⟨(-(client + 1)).toNat, by omega, by congr 1; omega, rfl⟩
    · go_wp2_with fail
      go_meet
      exact ⟨client.toNat, by omega, by congr 1; omega, rfl⟩
  case rest =>
    obtain ⟨m, hm, rfl, rfl⟩ := hcut
    have hr16 : (m : Int).tmod 16 = ((m % 16 : Nat) : Int) := rem_nat m 16
    have hk16 : m % 16 < 16 := Nat.mod_lt _ (by decide)
    obtain ⟨k, hk⟩ : ∃ k, m % 16 = k := ⟨_, rfl⟩
    rw [hk] at hr16 hk16
    clear hk
    have hrd : ((k : Int) + 1).tmod 16 = (((k + 1) % 16 : Nat) : Int) := rem_nat (k + 1) 16
    have hd16 : (k + 1) % 16 < 16 := Nat.mod_lt _ (by decide)
    have hdk : (k + 1) % 16 ≠ k := by omega
    obtain ⟨d, hd⟩ : ∃ d, (k + 1) % 16 = d := ⟨_, rfl⟩
    rw [hd] at hrd hd16 hdk
    clear hd
    have hk1w := IntWalk.i64_in ((k : Int) + 1) (by omega)
    have hrk := hn k hk16
    have hrd0 := hn d hd16
    clear hn hcl
    go_wp2_with fail
    go_loopw [6] (fun i wr => ∃ (I : Nat) (a : Int), I ≤ n ∧ I ≤ 30 ∧ i = .int .i64 I ∧ Rec wr T k I 0 a ⟨#[]⟩ ∧ Rec wr T d 0 0 0 ⟨#[]⟩ ∧ Chg (fun _ => False) w wr) (fun i _ => n - (intOf i).toNat)
    case atStart => exact ⟨0, 0, Nat.zero_le _, Nat.zero_le _, rfl, hrk, hrd0, hc1⟩
    case round =>
      obtain ⟨I, a, hI1, hI2, rfl, hrk, hrd0, hcw⟩ := hrel
      by_cases hrun : I < n ∧ I < 30
      · obtain ⟨hlt, h30⟩ := hrun
        have hcs' := hcs.chg hcw (fun _ _ _ hf => hf)
        have hxl : I < xs.length := by have := hcs.1; simp at this; omega
        obtain ⟨b, off, rfl, -, hcell⟩ := hcs'.2 (by omega)
        have hci : wr.cell? ⟨b, off + I, none⟩ = some (.int .i64 xs[I]) := hcell I _ (by simp [hxl])
        have hxb := HXS.out xs[I] (List.getElem_mem hxl)
        generalize xs[I] = x at hci hxb
        have HCELL := Lib.hid hcell
        clear hcell hcs'
        have hI1' : (I : Int) < (n : Int) := by omega
        go_upto_if 38 with fail
        go_cut [7] (fun s wx => ∃ m : Nat, (m : Int) ≤ 9223372036854775807 ∧ s = .int .i64 (m : Int) ∧ wr = wx)
        case first =>
          by_cases h : x < 0
          · have v1 := IntWalk.i64_in (x + 1) (by omega)
            have v2 := IntWalk.i64_in (-(x + 1)) (by omega)
            go_wp2_with fail
            go_meet
            exact ⟨(-(x + 1)).toNat, by omega, by congr 1; omega, rfl⟩
          · go_wp2_with fail
            go_meet
            exact ⟨x.toNat, by omega, by congr 1; omega, rfl⟩
        case rest =>
          obtain ⟨p, hp, rfl, rfl⟩ := hcut
          have hr4 : (p : Int).tmod 4 = ((p % 4 : Nat) : Int) := rem_nat p 4
          have hM4 : p % 4 < 4 := Nat.mod_lt _ (by decide)
          obtain ⟨M, hM⟩ : ∃ M, p % 4 = M := ⟨_, rfl⟩
          rw [hM] at hr4 hM4
          clear hM
          have hTlt : T < wr.heap.size := World.block_lt_of_cell? wr ⟨T, k * 4, none⟩ hrk.1
          go_wp2_with fail
          have hIw := IntWalk.i64_in ((I : Int) + 1) (by omega)
          go_loopw [8] (fun j wq => ∃ J : Nat, J ≤ M + 1 ∧ j = .int .i64 J ∧ (J = 0 → Rec wq T k I 0 a ⟨#[]⟩) ∧ (0 < J → Rec wq T k ((I : Int) + 1) 0 I ⟨#[]⟩) ∧ Rec wq T d 0 0 0 ⟨#[]⟩ ∧ Chg (fun _ => False) w wq) (fun j _ => M + 1 - (intOf j).toNat)
          case atStart => exact ⟨0, Nat.zero_le _, rfl, fun _ => hrk, fun h => absurd h (by omega), hrd0, hcw⟩
          case round =>
            obtain ⟨J, hJ, rfl, hr0, hr1, hrd1, hcq⟩ := hrel
            by_cases hJM : J < M + 1
            · by_cases hJ0 : J = 0
              · subst hJ0
                have hrk1 := hr0 rfl
                clear hr0 hr1
                have hJM' : (0 : Int) ≤ (M : Int) := by omega
                go_wp2_with fail
                refine (Ask_new hrk1 hk16 (by omega) (by omega)).mono ?_
                rintro e w5 ⟨rfl, hc5⟩
                go_wp2_with fail
                refine (Done_new (y' := 0) (a' := I) (z' := ⟨#[]⟩) ((hrk1.chg hc5 (fun h => h)).chg ((Chg.refl (fun _ => False) w5).alloc _) (fun h => h)) hk16 (by omega) (by omega)).mono ?_
                rintro e w6 ⟨rfl, hr6, ho6, hc6⟩
                have hd6 := ho6 d _ _ _ _ hdk ((hrd1.chg hc5 (fun h => h)).chg ((Chg.refl (fun _ => False) w5).alloc _) (fun h => h))
                have hcw6 : Chg (fun _ => False) w w6 := ((hcq.trans hc5 (fun _ _ h => h)).alloc _).trans hc6 (fun i hi h => by have := HT.out; omega)
                go_wp2_with fail
                go_roundw
                case rel => exact ⟨1, by omega, rfl, fun h => absurd h (by omega), fun _ => hr6, hd6, hcw6⟩
                case measure => simp [intOf]
              · have hrk1 := hr1 (by omega)
                clear hr0 hr1
                have hJM' : (J : Int) ≤ (M : Int) := by omega
                go_wp2_with fail
                refine (Ask_again hrk1 hk16 (by omega) rfl).mono ?_
                rintro e w5 ⟨rfl, hc5⟩
                go_wp2_with fail
                go_roundw
                case rel => exact ⟨J + 1, by omega, by go_num, fun h => absurd h (by omega), fun _ => (hrk1.chg hc5 (fun h => h)).chg ((Chg.refl (fun _ => False) w5).alloc _) (fun h => h), (hrd1.chg hc5 (fun h => h)).chg ((Chg.refl (fun _ => False) w5).alloc _) (fun h => h), (hcq.trans hc5 (fun _ _ h => h)).alloc _⟩
                case measure => simp [intOf]; omega
            · have hJe : J = M + 1 := by omega
              subst hJe
              have hrk1 := hr1 (by omega)
              clear hr0 hr1
              go_wp2_with fail
              refine (Ask_new hrd1 hd16 (by omega) (by omega)).mono ?_
              rintro e w5 ⟨rfl, hc5⟩
              go_wp2_with fail
              have hkE := (hrk1.chg hc5 (fun h => h)).chg ((Chg.refl (fun _ => False) w5).alloc (.cells #[.int .i64 0, .int .i64 0, .string ⟨#[]⟩] 38)) (fun h => h)
              have hdE := (hrd1.chg hc5 (fun h => h)).chg ((Chg.refl (fun _ => False) w5).alloc (.cells #[.int .i64 0, .int .i64 0, .string ⟨#[]⟩] 38)) (fun h => h)
              have hcE := (hcq.trans hc5 (fun _ _ h => h)).alloc (.cells #[.int .i64 0, .int .i64 0, .string ⟨#[]⟩] 38)
              generalize w5.alloc (.cells #[.int .i64 0, .int .i64 0, .string ⟨#[]⟩] 38) = wE at hkE hdE hcE ⊢
              refine (Last_in hdE hd16).mono ?_
              rintro e w6 ⟨rfl, q, rfl⟩
              go_wp2_with fail
              refine (Last_in (hkE.chg ((Chg.refl (fun _ => False) wE).drewN q) (fun h => h)) hk16).mono ?_
              rintro e w6 ⟨rfl, q2, rfl⟩
              go_wp2_with fail
              go_roundw
              case rel => exact ⟨I + 1, I, by omega, by omega, by go_num, by simpa using (hkE.chg ((Chg.refl (fun _ => False) wE).drewN (q + q2)) (fun h => h)), hdE.chg ((Chg.refl (fun _ => False) wE).drewN (q + q2)) (fun h => h), hcE.drewN (q + q2)⟩
              case measure => simp [intOf]; omega
      · have hcase : ¬ I < n ∨ (I < n ∧ ¬ I < 30) := by omega
        rcases hcase with hIn | ⟨hIn, hI30⟩
        all_goals
          clear hrk
          go_wp2_with fail
          refine (known17 _).mono ?_
          rintro e w5 ⟨rfl, hc5⟩
          go_wp2_with fail
          go_ret
          exact ⟨rfl, hcw.trans hc5 (fun _ _ h => h)⟩
end Go.Proofs.Ytnehkheojgmocaa
