/-
  WireWrites: numbers and texts are written as the document says: the walk through the law. Condition: each text has at most 1048576 bytes.
-/
import Derived.Test.YtiibkbkcncmjoaaWritten
import Derived.Test.YtiibkbkcncmjoaaRegion
import Derived.Test.YtiibkbkcncmjoaaNarrow
import Derived.Deep.CutBlock
import Derived.Deep.DeepCutAuto
namespace Go.Proofs.Ytiibkbkcncmjoaa
open Go.RowKit
set_option linter.unusedVariables false
set_option linter.unusedSimpArgs false

set_option maxRecDepth 100000 in
set_option maxHeartbeats 4000000 in
theorem writes_walk {w : World} {A : Option Addr} {n c : Nat} (hp : PartsArg 1048576 w A n c) :
    Calls Try.prog 4 #[.slice A n c] w (Holds1 w) := by
  have hsl := str_toList
  obtain ⟨q, hq⟩ := parts_of hp
  obtain ⟨hnc, hcm, -⟩ := hp
  have hwl := wall_length hq.small
  have HWL := Lib.hid hwl
  have HQ := Lib.hid hq
  clear hwl hq
  go_enter Try.func4, Try.ntmps4
  go_wp2_with fail
  refine (NewWriter_calls (fun k => w.heap.size ≤ k) w (Nat.le_refl _)).mono ?_
  rintro e w1 ⟨rfl, hd1, hc1⟩
  obtain ⟨D, hD⟩ : ∃ D, w.heap.size = D := ⟨_, rfl⟩
  have hz1 := hc1.size
  rw [hD] at hd1 hz1 ⊢
  have HD := Lib.hid hD
  clear hD
  have a1 : Chg (fun k => D ≤ k) w w1 := hc1.wide
  go_upto_block 0 with fail
  go_cut [4] (fun v wx => ∃ N : Nat, v = .int .i64 N ∧ Hid (N = min n 40) ∧ WrAt (fun k => D ≤ k) wx D (wall q N) ∧ Chg (fun k => D ≤ k) w wx)
  case first =>
    go_wp2_with fail
    go_loopw [4] (fun i wr => ∃ I : Nat, I ≤ n ∧ I ≤ 40 ∧ i = .int .i64 I ∧ WrAt (fun k => D ≤ k) wr D (wall q I) ∧ Chg (fun k => D ≤ k) w wr ∧ D ≤ wr.heap.size) (fun i _ => n - (intOf i).toNat)
    case atStart => exact ⟨0, Nat.zero_le _, Nat.zero_le _, rfl, hd1, a1, hz1⟩
    case round =>
      obtain ⟨I, hI1, hI2, rfl, hw, hcw, hzz⟩ := hrel
      have hm := HWL.out I hI1
      obtain ⟨l, hl⟩ : ∃ l, wall q I = l := ⟨_, rfl⟩
      rw [hl] at hw hm
      have HL := Lib.hid hl
      clear hl
      by_cases hrun : I < n ∧ I < 40
      · obtain ⟨hlt, h40⟩ := hrun
        obtain ⟨b, off, rfl, hbw, hat⟩ := HQ.out (by omega)
        obtain ⟨⟨q0, q1, q2, q3⟩, bk, bm, bd, bs⟩ := hat I hlt
        have hbD : ¬ D ≤ b := by have := HD.out; omega
        have q0 := hcw.cell q0 hbD
        have q1 := hcw.cell q1 hbD
        have q2 := hcw.cell q2 hbD
        have q3 := hcw.cell q3 hbD
        have hnext : ∀ x, wchunk (q I) = x → wall q (I + 1) = l ++ x := fun x hx => by rw [wall, HL.out, hx]
        unfold wchunk at hnext
        obtain ⟨k, hk⟩ : ∃ k, (q I).1 = k := ⟨_, rfl⟩
        obtain ⟨a, ha⟩ : ∃ a, (q I).2.1 = a := ⟨_, rfl⟩
        obtain ⟨d, hd⟩ : ∃ d, (q I).2.2.1 = d := ⟨_, rfl⟩
        obtain ⟨s, hs⟩ : ∃ s, (q I).2.2.2 = s := ⟨_, rfl⟩
        rw [hk] at q0 hnext
        rw [ha] at q1 bm hnext
        rw [hd] at q2 bd hnext
        rw [hs] at q3 bs hnext
        have hlb : l.length ≤ 41943360 := by omega
        clear hk ha hd hs bk hat hm
        by_cases k1 : k = 1
        · subst k1
          have HX := Lib.hid (hnext _ (if_pos rfl))
          clear hnext
          go_wp2_with fail
          refine (WByte_calls hw (fun k hk => by omega) a (by omega)).mono ?_
          rintro e w2 ⟨rfl, hd2, hc2⟩
          rw [← HX.out] at hd2
          have hz2 := hc2.size
          go_wp2_with fail
          go_roundw
          case rel => exact ⟨I + 1, by omega, by omega, by go_num, hd2, hcw.trans hc2 (fun _ _ h => h), by omega⟩
          case measure => simp [intOf]; omega
        have hk1 : (k == 1) = false := beq_eq_false_iff_ne.2 k1
        by_cases k2 : k = 2
        · subst k2
          have HX := Lib.hid (hnext _ (by rw [if_neg (by decide), if_pos rfl]))
          clear hnext hk1
          go_wp2_with fail
          refine (WShort_calls hw (fun k hk => by omega) a (by omega)).mono ?_
          rintro e w2 ⟨rfl, hd2, hc2⟩
          rw [← HX.out] at hd2
          have hz2 := hc2.size
          go_wp2_with fail
          go_roundw
          case rel => exact ⟨I + 1, by omega, by omega, by go_num, hd2, hcw.trans hc2 (fun _ _ h => h), by omega⟩
          case measure => simp [intOf]; omega
        have hk2 : (k == 2) = false := beq_eq_false_iff_ne.2 k2
        by_cases k3 : k = 3
        · subst k3
          have HX := Lib.hid (hnext _ (by rw [if_neg (by decide), if_neg (by decide), if_pos rfl]))
          clear hnext hk1 hk2
          go_wp2_with fail
          refine (WLong_calls hw (fun k hk => by omega) d (by omega)).mono ?_
          rintro e w2 ⟨rfl, hd2, hc2⟩
          rw [← HX.out] at hd2
          have hz2 := hc2.size
          go_wp2_with fail
          go_roundw
          case rel => exact ⟨I + 1, by omega, by omega, by go_num, hd2, hcw.trans hc2 (fun _ _ h => h), by omega⟩
          case measure => simp [intOf]; omega
        have hk3 : (k == 3) = false := beq_eq_false_iff_ne.2 k3
        by_cases k4 : k = 4
        · subst k4
          have HX := Lib.hid (hnext _ (by rw [if_neg (by decide), if_neg (by decide), if_neg (by decide), if_pos rfl]))
          clear hnext hk1 hk2 hk3
          go_wp2_with fail
          refine (WText_calls hw (fun k hk => by omega) s (by omega)).mono ?_
          rintro e w2 ⟨rfl, hd2, hc2⟩
          rw [← HX.out] at hd2
          have hz2 := hc2.size
          go_wp2_with fail
          go_roundw
          case rel => exact ⟨I + 1, by omega, by omega, by go_num, hd2, hcw.trans hc2 (fun _ _ h => h), by omega⟩
          case measure => simp [intOf]; omega
        have hk4 : (k == 4) = false := beq_eq_false_iff_ne.2 k4
        have HX := Lib.hid ((hnext _ (by rw [if_neg k1, if_neg k2, if_neg k3, if_neg k4])).trans (List.append_nil l))
        clear hnext
        go_wp2_with fail
        go_roundw
        case rel => exact ⟨I + 1, by omega, by omega, by go_num, by rw [HX.out]; exact hw, hcw, hzz⟩
        case measure => simp [intOf]; omega
      · have hIe : I = min n 40 := by omega
        have HI := Lib.hid hIe
        have hcase : ¬ I < n ∨ (I < n ∧ ¬ I < 40) := by omega
        clear hIe
        rw [← HL.out] at hw
        rcases hcase with hIn | ⟨hIn, hI40⟩
        all_goals
          go_wp2_with fail
          go_meet
          exact ⟨I, rfl, HI, hw, hcw⟩
  case rest =>
    obtain ⟨N, rfl, HN, hw, hcw⟩ := hcut
    obtain ⟨wp, rfl⟩ : ∃ x : World, x = wc := ⟨_, rfl⟩
    clear hd1 a1 hc1
    have hm := HWL.out N (by have := HN.out; omega)
    have hm40 : N ≤ 40 := by have := HN.out; omega
    obtain ⟨L, hL⟩ : ∃ L, wall q (min n 40) = L := ⟨_, rfl⟩
    rw [HN.out, hL] at hw
    rw [HN.out, hL] at hm
    have hmL : L.length ≤ 41943360 := by omega
    have HL := Lib.hid hL
    clear hm hL
    have hqx : ∀ wx, Chg (fun _ => False) wp wx → Parts q wx A n := fun wx h => HQ.out.chg (hcw.trans h (fun _ _ h => h.elim)) (fun k hk h => by have := HD.out; omega)
    have HQX := Lib.hid hqx
    clear hqx
    have hdr : Chg (fun _ => False) wp wp.drew := (Chg.refl _ _).drew
    go_wp2_with fail
    refine wp_region_held_drew (S := fun wx => Chg (fun _ => False) wp wx) (by kernel_rfl) hdr (fun hHeld => ?_)
    refine take_at (i := 0) (some 59) (v := ?_) rfl rfl (by kernel_rfl) (by kernel_rfl) (by kernel_rfl) (fun _ _ _ h => h) (Or.inl ⟨by rfl, ?_⟩) (by assumption) ?_
    rotate_left
    · (intro wx hSw; go_simp; try (with_reducible rfl))
    try simp only [Act.put, List.setIfInBounds_toArray, List.set_cons_zero, List.set_cons_succ]
    refine take_at (i := 3) (some 62) (v := ?_) rfl rfl (by kernel_rfl) (by kernel_rfl) (by kernel_rfl) (fun _ _ _ h => h) (Or.inl ⟨by rfl, ?_⟩) (by assumption) ?_
    rotate_left
    · (intro wx hSw; go_simp; try (with_reducible rfl))
    try simp only [Act.put, List.setIfInBounds_toArray, List.set_cons_zero, List.set_cons_succ]
    refine wpAnyH_ready (rs := [1]) (by kernel_rfl) (by simp) ?_
    refine AllReadyH.cons rfl (fun K hK => ?_) AllReadyH.nil
    go_simp
    refine (Done_calls (hw.keep hdr) (by omega)).mono ?_
    rintro e w5 ⟨o5, A5, c5, rfl, h5, hn5, hc5⟩
    have hk5 : Chg (fun _ => False) wp w5 := hdr.trans hc5 (fun _ _ h => h)
    go_wp2_with fail
    refine hK.out _ _ ?_ (fun hHeld => ?_)
    · (assumption)
    clear hK K
    try simp only [Act.put, List.setIfInBounds_toArray, List.set_cons_zero, List.set_cons_succ]
    refine narrow_at (S' := fun wx => Chg (fun _ => False) w5 wx) (fun wx h => hk5.trans h (fun _ _ h => h)) ?_
    have hHeld : Chg (fun _ => False) w5 w5 := Chg.refl _ _
    have r5 : ∀ wx, Chg (fun _ => False) w5 wx → (convert 22 9 (.slice A5 L.length c5)).run Try.prog wx = .ok (.string (str L)) wx := fun wx hx => run_string (P := Try.prog) Try.underlying22 Try.underlying5 Try.underlying9 (h5.cs.chg hx (fun _ _ _ hf => hf))
    refine take_at (i := 2) (some 61) (v := ?_) rfl rfl (by kernel_rfl) (by kernel_rfl) (by kernel_rfl) (fun _ _ _ h => h) (Or.inl ⟨by rfl, ?_⟩) (by assumption) ?_
    rotate_left
    · (intro wx hSw; go_simp; try (with_reducible rfl))
    try simp only [Act.put, List.setIfInBounds_toArray, List.set_cons_zero, List.set_cons_succ]
    refine wpAnyH_ready (rs := [4]) (by kernel_rfl) (by simp) ?_
    refine AllReadyH.cons rfl (fun K hK => ?_) AllReadyH.nil
    go_simp
    refine (written_calls (HQX.out _ hk5) hnc hcm).mono ?_
    rw [HL.out]
    rintro e w6 ⟨o6, A6, c6, rfl, h6, hn6, hc6⟩
    have hk6 : Chg (fun _ => False) wp w6 := hk5.trans hc6 (fun _ _ h => h)
    go_wp2_with fail
    refine hK.out _ _ ?_ (fun hHeld => ?_)
    · (assumption)
    clear hK K
    try simp only [Act.put, List.setIfInBounds_toArray, List.set_cons_zero, List.set_cons_succ]
    refine narrow_at (S' := fun wx => Chg (fun _ => False) w6 wx) (fun wx h => hc6.trans h (fun _ _ h => h)) ?_
    have hHeld : Chg (fun _ => False) w6 w6 := Chg.refl _ _
    have r6 : ∀ wx, Chg (fun _ => False) w6 wx → (convert 22 9 (.slice A6 L.length c6)).run Try.prog wx = .ok (.string (str L)) wx := fun wx hx => run_string (P := Try.prog) Try.underlying22 Try.underlying5 Try.underlying9 (h6.cs.chg hx (fun _ _ _ hf => hf))
    refine take_at (i := 5) (some 64) (v := ?_) rfl rfl (by kernel_rfl) (by kernel_rfl) (by kernel_rfl) (fun _ _ _ h => h) (Or.inl ⟨by rfl, ?_⟩) (by assumption) ?_
    rotate_left
    · (intro wx hSw; go_simp; try (with_reducible rfl))
    try simp only [Act.put, List.setIfInBounds_toArray, List.set_cons_zero, List.set_cons_succ]
    refine take_at (i := 6) (some 65) (v := ?_) rfl rfl (by kernel_rfl) (by kernel_rfl) (by kernel_rfl) (fun _ _ _ h => h) (Or.inl ⟨by rfl, ?_⟩) (by assumption) ?_
    rotate_left
    · (intro wx hSw; go_simp; try (with_reducible rfl))
    try simp only [Act.put, List.setIfInBounds_toArray, List.set_cons_zero, List.set_cons_succ]
    refine take_at (i := 7) (some 66) (v := ?_) rfl rfl (by kernel_rfl) (by kernel_rfl) (by kernel_rfl) (fun _ _ _ h => h) (Or.inl ⟨by rfl, ?_⟩) (by assumption) ?_
    rotate_left
    · (intro wx hSw; go_simp; try (with_reducible rfl))
    try simp only [Act.put, List.setIfInBounds_toArray, List.set_cons_zero, List.set_cons_succ]
    refine take_at (i := 8) (some 67) (v := ?_) rfl rfl (by kernel_rfl) (by kernel_rfl) (by kernel_rfl) (fun _ _ _ h => h) (Or.inl ⟨by rfl, ?_⟩) (by assumption) ?_
    rotate_left
    · (intro wx hSw; go_simp; try (with_reducible rfl))
    try simp only [Act.put, List.setIfInBounds_toArray, List.set_cons_zero, List.set_cons_succ]
    refine take_at (i := 11) (some 70) (v := ?_) rfl rfl (by kernel_rfl) (by kernel_rfl) (by kernel_rfl) (fun _ _ _ h => h) (Or.inl ⟨by rfl, ?_⟩) (by assumption) ?_
    rotate_left
    · (intro wx hSw; go_simp; try (with_reducible rfl))
    try simp only [Act.put, List.setIfInBounds_toArray, List.set_cons_zero, List.set_cons_succ]
    refine wpAnyH_ready (rs := [9]) (by kernel_rfl) (by simp) ?_
    refine AllReadyH.cons rfl (fun K hK => ?_) AllReadyH.nil
    go_simp
    refine (Done_calls (hw.keep hk6) (by omega)).mono ?_
    rintro e w7 ⟨o7, A7, c7, rfl, h7, hn7, hc7⟩
    have hk7 : Chg (fun _ => False) wp w7 := hk6.trans hc7 (fun _ _ h => h)
    go_wp2_with fail
    refine hK.out _ _ ?_ (fun hHeld => ?_)
    · (assumption)
    clear hK K
    try simp only [Act.put, List.setIfInBounds_toArray, List.set_cons_zero, List.set_cons_succ]
    refine narrow_at (S' := fun wx => Chg (fun _ => False) w7 wx) (fun wx h => hc7.trans h (fun _ _ h => h)) ?_
    have hHeld : Chg (fun _ => False) w7 w7 := Chg.refl _ _
    have r7 : ∀ wx, Chg (fun _ => False) w7 wx → (convert 22 9 (.slice A7 L.length c7)).run Try.prog wx = .ok (.string (str L)) wx := fun wx hx => run_string (P := Try.prog) Try.underlying22 Try.underlying5 Try.underlying9 (h7.cs.chg hx (fun _ _ _ hf => hf))
    refine take_at (i := 10) (some 69) (v := ?_) rfl rfl (by kernel_rfl) (by kernel_rfl) (by kernel_rfl) (fun _ _ _ h => h) (Or.inl ⟨by rfl, ?_⟩) (by assumption) ?_
    rotate_left
    · (intro wx hSw; go_simp; try (with_reducible rfl))
    try simp only [Act.put, List.setIfInBounds_toArray, List.set_cons_zero, List.set_cons_succ]
    refine wpAnyH_ready (rs := [12]) (by kernel_rfl) (by simp) ?_
    refine AllReadyH.cons rfl (fun K hK => ?_) AllReadyH.nil
    go_simp
    refine (written_calls (HQX.out _ hk7) hnc hcm).mono ?_
    rw [HL.out]
    rintro e w8 ⟨o8, A8, c8, rfl, h8, hn8, hc8⟩
    have hk8 : Chg (fun _ => False) wp w8 := hk7.trans hc8 (fun _ _ h => h)
    go_wp2_with fail
    refine hK.out _ _ ?_ (fun hHeld => ?_)
    · (assumption)
    clear hK K
    try simp only [Act.put, List.setIfInBounds_toArray, List.set_cons_zero, List.set_cons_succ]
    refine narrow_at (S' := fun wx => Chg (fun _ => False) w8 wx) (fun wx h => hc8.trans h (fun _ _ h => h)) ?_
    have hHeld : Chg (fun _ => False) w8 w8 := Chg.refl _ _
    have r8 : ∀ wx, Chg (fun _ => False) w8 wx → (convert 22 9 (.slice A8 L.length c8)).run Try.prog wx = .ok (.string (str L)) wx := fun wx hx => run_string (P := Try.prog) Try.underlying22 Try.underlying5 Try.underlying9 (h8.cs.chg hx (fun _ _ _ hf => hf))
    refine take_at (i := 13) (some 72) (v := ?_) rfl rfl (by kernel_rfl) (by kernel_rfl) (by kernel_rfl) (fun _ _ _ h => h) (Or.inl ⟨by rfl, ?_⟩) (by assumption) ?_
    rotate_left
    · (intro wx hSw; go_simp; try (with_reducible rfl))
    try simp only [Act.put, List.setIfInBounds_toArray, List.set_cons_zero, List.set_cons_succ]
    refine take_at (i := 14) (some 73) (v := ?_) rfl rfl (by kernel_rfl) (by kernel_rfl) (by kernel_rfl) (fun _ _ _ h => h) (Or.inl ⟨by rfl, ?_⟩) (by assumption) ?_
    rotate_left
    · (intro wx hSw; go_simp; try (with_reducible rfl))
    try simp only [Act.put, List.setIfInBounds_toArray, List.set_cons_zero, List.set_cons_succ]
    refine take_at (i := 15) (some 74) (v := ?_) rfl rfl (by kernel_rfl) (by kernel_rfl) (by kernel_rfl) (fun _ _ _ h => h) (Or.inl ⟨by rfl, ?_⟩) (by assumption) ?_
    rotate_left
    · (intro wx hSw; go_simp; try (with_reducible rfl))
    try simp only [Act.put, List.setIfInBounds_toArray, List.set_cons_zero, List.set_cons_succ]
    refine take_at (i := 16) (some 75) (v := ?_) rfl rfl (by kernel_rfl) (by kernel_rfl) (by kernel_rfl) (fun _ _ _ h => h) (Or.inl ⟨by rfl, ?_⟩) (by assumption) ?_
    rotate_left
    · (intro wx hSw; go_simp; try (with_reducible rfl))
    try simp only [Act.put, List.setIfInBounds_toArray, List.set_cons_zero, List.set_cons_succ]
    refine wpAnyH_ready (rs := [17]) (by kernel_rfl) (by simp) ?_
    refine AllReadyH.cons rfl (fun K hK => ?_) AllReadyH.nil
    go_simp
    refine (known1 _).mono ?_
    rintro e w9 ⟨rfl, hc9⟩
    have hk9 := hk8.trans hc9 (fun _ _ h => h)
    go_wp2_with fail
    refine hK.out _ _ ?_ (fun hHeld => ?_)
    · (assumption)
    clear hK K
    try simp only [Act.put, List.setIfInBounds_toArray, List.set_cons_zero, List.set_cons_succ]
    refine take_at (i := 18) (some 77) (v := ?_) rfl rfl (by kernel_rfl) (by kernel_rfl) (by kernel_rfl) (fun _ _ _ h => h) (Or.inl ⟨by rfl, ?_⟩) (by assumption) ?_
    rotate_left
    · (intro wx hSw; go_simp; try (with_reducible rfl))
    try simp only [Act.put, List.setIfInBounds_toArray, List.set_cons_zero, List.set_cons_succ]
    refine take_at (i := 19) (some 2) (v := ?_) rfl rfl (by kernel_rfl) (by kernel_rfl) (by kernel_rfl) (fun _ _ _ h => h) (Or.inl ⟨by rfl, ?_⟩) (by assumption) ?_
    rotate_left
    · (intro wx hSw; go_simp; try (with_reducible rfl))
    try simp only [Act.put, List.setIfInBounds_toArray, List.set_cons_zero, List.set_cons_succ]
    refine wpAnyH_done (by kernel_rfl) ?_ _
    go_wp2_with fail
    go_ret
    have a9 : Chg (fun k => D ≤ k) w w9 := hcw.trans hk9 (fun _ _ h => h.elim)
    exact ⟨rfl, a9.new fun k hk h => by have := HD.out; omega⟩
end Go.Proofs.Ytiibkbkcncmjoaa
