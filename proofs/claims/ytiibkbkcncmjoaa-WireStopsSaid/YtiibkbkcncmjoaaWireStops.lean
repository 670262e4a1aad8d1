/-
  WireStops: behind the first refusal nothing is read, and nothing moves; it stays: the walk through the law.
-/
import Derived.Test.YtiibkbkcncmjoaaWireFew
import Derived.Test.YtiibkbkcncmjoaaParts
namespace Go.Proofs.Ytiibkbkcncmjoaa
open Go.RowKit
set_option linter.unusedVariables false
set_option linter.unusedSimpArgs false

theorem rtext_off {l : List UInt8} {most : Int} {s : RS} (h : s.y ≠ 0) : rtext l most s = ([], s) := by
  unfold rtext
  rw [rtake_off h]
  rw [if_neg (fun hh => h hh.1)]
  exact rtake_off h

set_option maxRecDepth 100000 in
set_option maxHeartbeats 2000000 in
theorem stops_walk {w : World} {A : Option Addr} {n c : Nat} {l : List UInt8} {A1 : Option Addr} {n1 c1 : Nat} (hb : BytesArg w A n c l) (hz : c ≤ 140737488355328) (hp : PartsArg 9223372036854775807 w A1 n1 c1) :
    Calls Try.prog 8 #[.slice A n c, .slice A1 n1 c1] w (Holds1 w) := by
  obtain ⟨hcs, hnc, hcm⟩ := hb
  obtain ⟨hn1, hc1, hall⟩ := hp
  have HALL := Lib.hid hall
  clear hall
  go_enter Try.func8, Try.ntmps8
  go_wp2_with fail
  refine (NewReader_calls (fun k => w.heap.size ≤ k) hcs (by omega) (fun k hk => hk)).mono ?_
  rintro e w1 ⟨R, rfl, hR, r1, hc1'⟩
  go_wp2_with fail
  refine (Fail_calls r1 28).mono ?_
  rintro e w2 ⟨rfl, r2, hc2⟩
  rw [show rfail 28 ⟨0, 0, 0⟩ = ⟨0, 28, 0⟩ from rfl] at r2
  have a2 := hc1'.wide.trans (T := fun k => w.heap.size ≤ k) hc2 (fun _ _ h => by omega)
  have hs0 : (str []).toList = [] := str_toList _
  clear r1 hc1' hc2
  go_wp2_with fail
  go_loopw [6] (fun i wr => ∃ I : Nat, I ≤ n1 ∧ I ≤ 20 ∧ i = .int .i64 I ∧ RdAt (fun k => w.heap.size ≤ k) wr R l ⟨0, 28, 0⟩ ∧ Chg (fun k => w.heap.size ≤ k) w wr) (fun i _ => n1 - (intOf i).toNat)
  case atStart => exact ⟨0, Nat.zero_le _, Nat.zero_le _, rfl, r2, a2⟩
  case round =>
    obtain ⟨I, hI1, hI2, rfl, r3, a3⟩ := hrel
    by_cases hrun : I < n1 ∧ I < 20
    · obtain ⟨hlt, h20⟩ := hrun
      obtain ⟨b, off, rfl, hbw, hat⟩ := HALL.out (by omega)
      obtain ⟨k, m, d, s, q0, q1, q2, q3, bk, bm, bd, bs⟩ := hat I hlt
      have hbV : ¬ w.heap.size ≤ b := by omega
      have q1' := a3.cell q1 hbV
      have hbR : ¬ b = R := by omega
      clear q0 q1 q2 q3 hat
      go_wp2_with fail
      refine (RByte_calls r3).mono ?_
      rw [rtake_off (by decide)]
      rintro e w4 ⟨rfl, r4, hc4⟩
      have r4 : RdAt (fun k => w.heap.size ≤ k) w4 R l ⟨0, 28, 0⟩ := r4
      have a4 := a3.trans hc4 (fun _ _ h => by omega)
      rw [show num (([] : List UInt8), (⟨0, 28, 0⟩ : RS)).1 = 0 from rfl]
      have q4 := hc4.cell q1' hbR
      clear r3 a3 q1'
      go_wp2_with fail
      refine (RShort_calls r4).mono ?_
      rw [rtake_off (by decide)]
      rintro e w5 ⟨rfl, r5, hc5⟩
      have r5 : RdAt (fun k => w.heap.size ≤ k) w5 R l ⟨0, 28, 0⟩ := r5
      have a5 := a4.trans hc5 (fun _ _ h => by omega)
      rw [show num (([] : List UInt8), (⟨0, 28, 0⟩ : RS)).1 = 0 from rfl]
      have q5 := hc5.cell q4 hbR
      clear r4 a4 q4
      go_wp2_with fail
      refine (RLong_calls r5).mono ?_
      rw [rtake_off (by decide)]
      rintro e w6 ⟨rfl, r6, hc6⟩
      have r6 : RdAt (fun k => w.heap.size ≤ k) w6 R l ⟨0, 28, 0⟩ := r6
      have a6 := a5.trans hc6 (fun _ _ h => by omega)
      rw [show s64 (num (([] : List UInt8), (⟨0, 28, 0⟩ : RS)).1) = 0 from rfl]
      have q6 := hc6.cell q5 hbR
      clear r5 a5 q5
      go_wp2_with fail
      refine (RText_calls r6 m).mono ?_
      rw [rtext_off (by decide)]
      rintro e w7 ⟨rfl, r7, hc7⟩
      have r7 : RdAt (fun k => w.heap.size ≤ k) w7 R l ⟨0, 28, 0⟩ := r7
      have a7 := a6.trans hc7 (fun _ _ h => by omega)
      clear r6 a6 q6
      go_wp2_with fail
      refine (Left_calls r7).mono ?_
      rintro e w8 ⟨rfl, d8, rfl⟩
      rw [show rleft l ⟨0, 28, 0⟩ = 0 from rfl]
      have r8 := r7.keep ((Chg.refl _ w7).drewN d8)
      have a8 := a7.drewN d8
      clear r7 a7
      go_wp2_with fail
      refine (Fail_calls r8 24).mono ?_
      rintro e w9 ⟨rfl, r9, hc9⟩
      rw [show rfail 24 ⟨0, 28, 0⟩ = ⟨0, 28, 0⟩ from rfl] at r9
      have a9 := a8.trans hc9 (fun _ _ h => by omega)
      go_wp2_with fail
      go_roundw
      case rel => exact ⟨I + 1, by omega, by omega, by go_num, r9, a9⟩
      case measure => simp [intOf]; omega
    · have hcase : ¬ I < n1 ∨ (I < n1 ∧ ¬ I < 20) := by omega
      rcases hcase with hIn | ⟨hIn, hI20⟩
      all_goals
        go_wp2_with fail
        refine (End_calls r3).mono ?_
        rintro e w4 ⟨rfl, d4, rfl⟩
        rw [show rwhy l ⟨0, 28, 0⟩ = 28 from rfl, show rwhere l ⟨0, 28, 0⟩ = 0 from rfl]
        have a4 := a3.drewN d4
        go_wp2_with fail
        refine (known1 _).mono ?_
        rintro e w25 ⟨rfl, hc25⟩
        go_wp2_with fail
        go_ret
        exact ⟨rfl, (a4.trans hc25 (fun _ _ h => h.elim)).new fun k hk h => by omega⟩
end Go.Proofs.Ytiibkbkcncmjoaa
