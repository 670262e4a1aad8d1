/-
  WireBack: what is written is read, in its order, and nothing is left: the walk through the law.
-/
import Derived.Test.YtiibkbkcncmjoaaWireBackMath
import Derived.Test.YtiibkbkcncmjoaaRegion
import Derived.Deep.CutBlock
import Derived.Deep.DeepCutAuto
namespace Go.Proofs.Ytiibkbkcncmjoaa
open Go.RowKit
set_option linter.unusedVariables false
set_option linter.unusedSimpArgs false

theorem ball_step (q : Nat → Int × Int × Int × ByteArray) (I : Nat) (m d : Int) (s : ByteArray) (hm : (q I).2.1 = m) (hd : (q I).2.2.1 = d) (hs : (q I).2.2.2 = s) :
    ball q I ++ le 1 (u64 m) ++ le 2 (u64 m) ++ le 8 (u64 d) ++ (le 2 (few s).size ++ (few s).data.toList) = ball q (I + 1) := by
  subst hm; subst hd; subst hs
  simp [ball, bchunk]

set_option maxRecDepth 100000 in
set_option maxHeartbeats 4000000 in
theorem back_walk {w : World} {A1 : Option Addr} {n1 c1 : Nat} (hp : PartsArg 9223372036854775807 w A1 n1 c1) :
    Calls Try.prog 5 #[.slice A1 n1 c1] w (Holds1 w) := by
  have hsl := str_toList
  obtain ⟨hn1, hc1, hall⟩ := hp
  have hq : ∃ (q : Nat → Int × Int × Int × ByteArray), 0 < n1 → ∃ b off, A1 = some ⟨b, off, none⟩ ∧ b < w.heap.size ∧ ∀ i, i < n1 → w.cell? ⟨b, off + i * 4, none⟩ = some (.int .i64 (q i).1) ∧ w.cell? ⟨b, off + i * 4 + 1, none⟩ = some (.int .i64 (q i).2.1) ∧ w.cell? ⟨b, off + i * 4 + 2, none⟩ = some (.int .i64 (q i).2.2.1) ∧ w.cell? ⟨b, off + i * 4 + 3, none⟩ = some (.string (q i).2.2.2) ∧
      (-9223372036854775808 ≤ (q i).1 ∧ (q i).1 ≤ 9223372036854775807) ∧ (-9223372036854775808 ≤ (q i).2.1 ∧ (q i).2.1 ≤ 9223372036854775807) ∧ (-9223372036854775808 ≤ (q i).2.2.1 ∧ (q i).2.2.1 ≤ 9223372036854775807) ∧ (q i).2.2.2.size ≤ 9223372036854775807 := by
    rcases Nat.eq_zero_or_pos n1 with h0 | h0
    · exact ⟨fun _ => (0, 0, 0, ⟨#[]⟩), fun h => absurd h (by omega)⟩
    · obtain ⟨b, off, e, hb, hat⟩ := hall h0
      obtain ⟨q, hq⟩ := parts_fun hat
      exact ⟨q, fun _ => ⟨b, off, e, hb, hq⟩⟩
  obtain ⟨q, hq⟩ := hq
  have HQ := Lib.hid hq
  clear hall hq
  go_enter Try.func5, Try.ntmps5
  go_wp2_with fail
  refine (NewWriter_calls (fun k => w.heap.size ≤ k) w (Nat.le_refl _)).mono ?_
  rintro e w1 ⟨rfl, hd1, hc1'⟩
  obtain ⟨D, hD⟩ : ∃ D, w.heap.size = D := ⟨_, rfl⟩
  have hz1 := hc1'.size
  rw [hD] at hd1 hz1 ⊢
  have HD := Lib.hid hD
  clear hD
  have a1 : Chg (fun k => D ≤ k) w w1 := hc1'.wide
  go_upto_block 0 with fail
  go_cut [4] (fun v wx => ∃ N : Nat, N ≤ n1 ∧ N ≤ 60 ∧ v = .int .i64 N ∧ (N = n1 ∨ N = 60) ∧ WrAt (fun k => D ≤ k) wx D (ball q N) ∧ Chg (fun k => D ≤ k) w wx)
  case first =>
    go_wp2_with fail
    go_loopw [4] (fun i wr => ∃ I : Nat, I ≤ n1 ∧ I ≤ 60 ∧ i = .int .i64 I ∧ WrAt (fun k => D ≤ k) wr D (ball q I) ∧ Chg (fun k => D ≤ k) w wr) (fun i _ => n1 - (intOf i).toNat)
    case atStart => exact ⟨0, Nat.zero_le _, Nat.zero_le _, rfl, hd1, a1⟩
    case round =>
      obtain ⟨I, hI1, hI2, rfl, hd, a⟩ := hrel
      have hbl := ball_length q I
      by_cases hrun : I < n1 ∧ I < 60
      · obtain ⟨hlt, h60⟩ := hrun
        obtain ⟨b, off, rfl, hbw, hat⟩ := HQ.out (by omega)
        obtain ⟨q0, q1, q2, q3, bk, bm, bd, bs⟩ := hat I hlt
        have hbD : b < D := by have := HD.out; omega
        have hbV : ¬ D ≤ b := by omega
        obtain ⟨m, hm⟩ : ∃ m, (q I).2.1 = m := ⟨_, rfl⟩
        obtain ⟨d, hd'⟩ : ∃ d, (q I).2.2.1 = d := ⟨_, rfl⟩
        obtain ⟨s, hs⟩ : ∃ s, (q I).2.2.2 = s := ⟨_, rfl⟩
        have HSTEP := Lib.hid (ball_step q I m d s hm hd' hs)
        rw [hm] at q1 bm
        rw [hd'] at q2 bd
        rw [hs] at q3 bs
        have hfs := few_size s
        have q1' := a.cell q1 hbV
        have Q2 := Lib.hid q2
        have Q3 := Lib.hid q3
        have Q1 := Lib.hid q1
        have hsz := a.size
        have HHD := HD.out
        have hzz : D ≤ wr.heap.size := by omega
        clear q0 q1 q2 q3 hat hm hd' hs bk HHD
        go_wp2_with fail
        refine (WByte_calls hd (fun k hk => by omega) m (by omega)).mono ?_
        rintro e w2 ⟨rfl, hd2, hc2⟩
        have l2 : Hid ((ball q I ++ le 1 (Go.Proofs.Ytiibkbkcncmjoaa.u64 m)).length = (ball q I).length + 1) := Lib.hid (by rw [List.length_append, le_length])
        have a2 := a.trans hc2 (fun _ _ h => h)
        have q1' := a2.cell Q1.out hbV
        have hz2 := hc2.size
        clear hd a
        go_wp2_with fail
        refine (WShort_calls hd2 (fun k hk => by omega) m (by rw [l2.out]; omega)).mono ?_
        rintro e w3 ⟨rfl, hd3, hc3⟩
        have l3 : Hid ((ball q I ++ le 1 (Go.Proofs.Ytiibkbkcncmjoaa.u64 m) ++ le 2 (Go.Proofs.Ytiibkbkcncmjoaa.u64 m)).length = (ball q I).length + 3) := Lib.hid (by rw [List.length_append, l2.out, le_length])
        have a3 := a2.trans hc3 (fun _ _ h => h)
        have q2' := a3.cell Q2.out hbV
        have hz3 := hc3.size
        clear hd2 a2 q1'
        go_wp2_with fail
        refine (WLong_calls hd3 (fun k hk => by omega) d (by rw [l3.out]; omega)).mono ?_
        rintro e w4 ⟨rfl, hd4, hc4⟩
        have l4 : Hid ((ball q I ++ le 1 (Go.Proofs.Ytiibkbkcncmjoaa.u64 m) ++ le 2 (Go.Proofs.Ytiibkbkcncmjoaa.u64 m) ++ le 8 (Go.Proofs.Ytiibkbkcncmjoaa.u64 d)).length = (ball q I).length + 11) := Lib.hid (by rw [List.length_append, l3.out, le_length])
        have a4 := a3.trans hc4 (fun _ _ h => h)
        have q3' := a4.cell Q3.out hbV
        have hz4 := hc4.size
        clear hd3 a3 q2'
        go_wp2_with fail
        refine (few_calls w4 s bs).mono ?_
        rintro e w5 ⟨rfl, rfl⟩
        clear q3'
        go_wp2_with fail
        refine (WText_calls hd4 (fun k hk => by omega) (few s) (by rw [l4.out]; omega)).mono ?_
        rintro e w6 ⟨rfl, hd6, hc6⟩
        rw [HSTEP.out] at hd6
        have a6 := a4.trans hc6 (fun _ _ h => h)
        clear hd4 a4
        go_wp2_with fail
        go_roundw
        case rel => exact ⟨I + 1, by omega, by omega, by go_num, hd6, a6⟩
        case measure => simp [intOf]; omega
      · have hcase : ¬ I < n1 ∨ (I < n1 ∧ ¬ I < 60) := by omega
        rcases hcase with hIn | ⟨hIn, hI60⟩
        all_goals
          go_wp2_with fail
          go_meet
          exact ⟨I, hI1, hI2, rfl, by omega, hd, a⟩
  case rest =>
    obtain ⟨N, hN1, hN2, rfl, hN3, hd, a⟩ := hcut
    clear hd1 a1 hc1'
    obtain ⟨w2, rfl⟩ : ∃ x : World, x = wc := ⟨_, rfl⟩
    have hbl := ball_length q N
    obtain ⟨L, hL⟩ : ∃ L, ball q N = L := ⟨_, rfl⟩
    rw [hL] at hd hbl
    have HL := Lib.hid hL
    have hbl6 : L.length ≤ 3932880 := by omega
    clear hL
    go_wp2_with fail
    refine (Done_calls hd (by omega)).mono ?_
    rintro e w3 ⟨o3, A3, c3, rfl, hown3, -, hc3⟩
    have a3 := a.trans hc3 (fun _ _ h => h.elim)
    go_wp2_with fail
    have hz3 := a3.size
    have HHD := HD.out
    have hzz : D ≤ w3.heap.size := by omega
    clear HHD
    refine (NewReader_calls (fun k => D ≤ k) hown3.cs (by omega) (fun k hk => by omega)).mono ?_
    rintro e w4 ⟨R, rfl, hR, r4, hc4⟩
    have a4 := a3.trans hc4 (fun _ _ h => h.elim)
    have hRD : D ≤ R := r4.inV
    clear hd a hown3 a3
    go_wp2_with fail
    go_loopw [6] (fun i wr => ∃ J : Nat, J ≤ N ∧ i = .int .i64 J ∧ RdAt (fun k => D ≤ k) wr R L ⟨(ball q J).length, 0, 0⟩ ∧ Chg (fun k => D ≤ k) w wr) (fun i _ => N - (intOf i).toNat)
    case atStart => exact ⟨0, Nat.zero_le _, rfl, r4, a4⟩
    case round =>
      clear r4 a4
      obtain ⟨J, hJ, rfl, r, a⟩ := hrel
      obtain ⟨wq, rfl⟩ : ∃ x : World, x = wr := ⟨_, rfl⟩
      by_cases hJN : J < N
      · obtain ⟨b, off, rfl, hbw, hat⟩ := HQ.out (by omega)
        obtain ⟨q0, q1, q2, q3, bk, bm, bd, bs⟩ := hat J (by omega)
        have hbD : b < D := by have := HD.out; omega
        have hbV : ¬ D ≤ b := by omega
        have hbR : ¬ b = R := by omega
        have hf := few_size (q J).2.2.2
        obtain ⟨post, hpost⟩ := ball_split q hJN
        rw [HL.out] at hpost
        have hrd := breads hpost hf bd
        have hbn : ball q (J + 1) = ball q J ++ bchunk (q J).2.1 (q J).2.2.1 (few (q J).2.2.2) := rfl
        rw [← hbn] at hrd
        clear hpost hbn
        obtain ⟨m, hm⟩ : ∃ m, (q J).2.1 = m := ⟨_, rfl⟩
        obtain ⟨d, hd'⟩ : ∃ d, (q J).2.2.1 = d := ⟨_, rfl⟩
        obtain ⟨s, hs⟩ : ∃ s, (q J).2.2.2 = s := ⟨_, rfl⟩
        rw [hm] at q1 bm hrd
        rw [hd'] at q2 bd hrd
        rw [hs] at q3 bs hf hrd
        obtain ⟨e1, e2, e3, e4, e5⟩ := hrd
        obtain ⟨P, hP⟩ : ∃ P, (ball q J).length = P := ⟨_, rfl⟩
        obtain ⟨P2, hP2⟩ : ∃ P2, (ball q (J + 1)).length = P2 := ⟨_, rfl⟩
        rw [hP] at e1 e2 e3 e4 r
        rw [hP2] at e4
        have hn1 := and_255 m
        have hn2 := and_65535 m
        have hb1 := num_lt1 (l := le 1 (Go.Proofs.Ytiibkbkcncmjoaa.u64 m)) (by rw [le_length]; omega)
        have hb2 := num_lt2 (l := le 2 (Go.Proofs.Ytiibkbkcncmjoaa.u64 m)) (by rw [le_length]; omega)
        have E1 := Lib.hid e1
        have E2 := Lib.hid e2
        have E3 := Lib.hid e3
        have E4 := Lib.hid e4
        have E5 := Lib.hid e5
        have HP := Lib.hid hP
        have HP2 := Lib.hid hP2
        clear e1 e2 e3 e4 e5 hP hP2 hm hd' hs hat q0 bk
        generalize hy1 : num (le 1 (Go.Proofs.Ytiibkbkcncmjoaa.u64 m)) = y1 at hn1 hb1
        generalize hy2 : num (le 2 (Go.Proofs.Ytiibkbkcncmjoaa.u64 m)) = y2 at hn2 hb2
        have Y1 := Lib.hid hy1
        have Y2 := Lib.hid hy2
        clear hy1 hy2
        have q1' := a.cell q1 hbV
        have q2' := a.cell q2 hbV
        have q3' := a.cell q3 hbV
        have q1d : wq.drew.cell? ⟨b, off + J * 4 + 1, none⟩ = some (.int .i64 m) := q1'
        have q2d : wq.drew.cell? ⟨b, off + J * 4 + 2, none⟩ = some (.int .i64 d) := q2'
        have q3d : wq.drew.cell? ⟨b, off + J * 4 + 3, none⟩ = some (.string s) := q3'
        have hJn : (J : Int) < (n1 : Int) := by omega
        have hx1 : ((y1 : Int) != (y1 : Int)) = false := by simp
        have hx2 : ((y2 : Int) != (y2 : Int)) = false := by simp
        have hx3 : (d != d) = false := by simp
        have hx4 : ((few s).toList != (few s).toList) = false := by simp
        have hJ60 : J < 60 := by omega
        have hJn1 : J < n1 := by omega
        clear q1 q2 q3
        go_wp2_with fail
        refine wp_region_held_drew (S := fun wx => wx.cell? ⟨b, off + J * 4 + 1, none⟩ = some (.int .i64 m) ∧ wx.cell? ⟨b, off + J * 4 + 2, none⟩ = some (.int .i64 d) ∧ wx.cell? ⟨b, off + J * 4 + 3, none⟩ = some (.string s)) (by kernel_rfl) ⟨q1d, q2d, q3d⟩ (fun hHeld => ?_)
        refine take_at (i := 0) (some 66) (v := ?_) rfl rfl (by kernel_rfl) (by kernel_rfl) (by kernel_rfl) (fun _ _ _ h => h) (Or.inl ⟨by rfl, ?_⟩) (by assumption) ?_
        rotate_left
        · (intro wx hSw; go_simp; try (with_reducible rfl))
        try simp only [Act.put, List.setIfInBounds_toArray, List.set_cons_zero, List.set_cons_succ]
        refine take_at (i := 2) (some 68) (v := ?_) rfl rfl (by kernel_rfl) (by kernel_rfl) (by kernel_rfl) (fun _ _ _ h => h) (Or.inl ⟨by rfl, ?_⟩) (by assumption) ?_
        rotate_left
        · (intro wx hSw; go_simp; try (with_reducible rfl))
        try simp only [Act.put, List.setIfInBounds_toArray, List.set_cons_zero, List.set_cons_succ]
        refine take_at (i := 3) (some 69) (v := ?_) rfl rfl (by kernel_rfl) (by kernel_rfl) (by kernel_rfl) (fun _ _ _ h => h) (Or.inl ⟨by rfl, ?_⟩) (by assumption) ?_
        rotate_left
        · (intro wx hSw; go_simp; try (with_reducible rfl))
        try simp only [Act.put, List.setIfInBounds_toArray, List.set_cons_zero, List.set_cons_succ]
        refine take_at (i := 4) (some 70) (v := ?_) rfl rfl (by kernel_rfl) (by kernel_rfl) (by kernel_rfl) (fun _ _ _ h => h) (Or.inl ⟨by rfl, ?_⟩) (by assumption) ?_
        rotate_left
        · (intro wx hSw; go_simp; try (with_reducible rfl))
        try simp only [Act.put, List.setIfInBounds_toArray, List.set_cons_zero, List.set_cons_succ]
        refine take_at (i := 5) (some 71) (v := ?_) rfl rfl (by kernel_rfl) (by kernel_rfl) (by kernel_rfl) (fun _ _ _ h => h) (Or.inl ⟨by rfl, ?_⟩) (by assumption) ?_
        rotate_left
        · (intro wx hSw; go_simp; try (with_reducible rfl))
        try simp only [Act.put, List.setIfInBounds_toArray, List.set_cons_zero, List.set_cons_succ]
        refine take_at (i := 6) (some 72) (v := ?_) rfl rfl (by kernel_rfl) (by kernel_rfl) (by kernel_rfl) (fun _ _ _ h => h) (Or.inl ⟨by rfl, ?_⟩) (by assumption) ?_
        rotate_left
        · (intro wx hSw; go_simp; try (with_reducible rfl))
        try simp only [Act.put, List.setIfInBounds_toArray, List.set_cons_zero, List.set_cons_succ]
        refine take_at (i := 7) (some 73) (v := ?_) rfl rfl (by kernel_rfl) (by kernel_rfl) (by kernel_rfl) (fun _ _ _ h => h) (Or.inl ⟨by rfl, ?_⟩) (by assumption) ?_
        rotate_left
        · (intro wx hSw; go_simp; try (with_reducible rfl))
        try simp only [Act.put, List.setIfInBounds_toArray, List.set_cons_zero, List.set_cons_succ]
        refine wpAnyH_ready (rs := [1]) (by kernel_rfl) (by simp) ?_
        refine AllReadyH.cons rfl (fun K hK => ?_) AllReadyH.nil
        go_simp
        refine (RByte_calls (r.keep ((Chg.refl _ wq).drew))).mono ?_
        rw [E1.out]
        rintro e wR ⟨rfl, r1, hcR⟩
        rw [show num (le 1 (Go.Proofs.Ytiibkbkcncmjoaa.u64 m), (⟨P + 1, 0, 0⟩ : RS)).1 = y1 from Y1.out]
        have q1R := hcR.cell q1d hbR
        have q2R := hcR.cell q2d hbR
        have q3R := hcR.cell q3d hbR
        go_wp2_with fail
        refine hK.out _ _ ?_ (fun hHeld => ?_)
        · ((refine ⟨?_, ?_, ?_⟩ <;> assumption))
        clear hK K
        try simp only [Act.put, List.setIfInBounds_toArray, List.set_cons_zero, List.set_cons_succ]
        refine take_at (i := 8) (some 74) (v := ?_) rfl rfl (by kernel_rfl) (by kernel_rfl) (by kernel_rfl) (fun _ _ _ h => h) (Or.inl ⟨by rfl, ?_⟩) (by assumption) ?_
        rotate_left
        · (intro wx hSw; go_simp; try (with_reducible rfl))
        try simp only [Act.put, List.setIfInBounds_toArray, List.set_cons_zero, List.set_cons_succ]
        refine take_at (i := 9) (some 75) (v := ?_) rfl rfl (by kernel_rfl) (by kernel_rfl) (by kernel_rfl) (fun _ _ _ h => h) (Or.inl ⟨by rfl, ?_⟩) (by assumption) ?_
        rotate_left
        · (intro wx hSw; go_simp; try (with_reducible rfl))
        try simp only [Act.put, List.setIfInBounds_toArray, List.set_cons_zero, List.set_cons_succ]
        refine take_at (i := 10) (some 76) (v := ?_) rfl rfl (by kernel_rfl) (by kernel_rfl) (by kernel_rfl) (fun _ _ _ h => h) (Or.inl ⟨by rfl, ?_⟩) (by assumption) ?_
        rotate_left
        · (intro wx hSw; go_simp; try (with_reducible rfl))
        try simp only [Act.put, List.setIfInBounds_toArray, List.set_cons_zero, List.set_cons_succ]
        refine take_at (i := 12) (some 78) (v := ?_) rfl rfl (by kernel_rfl) (by kernel_rfl) (by kernel_rfl) (fun _ _ _ h => h) (Or.inl ⟨by rfl, ?_⟩) (by assumption) ?_
        rotate_left
        · (intro wx hSw; go_simp; try (with_reducible rfl))
        try simp only [Act.put, List.setIfInBounds_toArray, List.set_cons_zero, List.set_cons_succ]
        refine take_at (i := 13) (some 79) (v := ?_) rfl rfl (by kernel_rfl) (by kernel_rfl) (by kernel_rfl) (fun _ _ _ h => h) (Or.inl ⟨by rfl, ?_⟩) (by assumption) ?_
        rotate_left
        · (intro wx hSw; go_simp; try (with_reducible rfl))
        try simp only [Act.put, List.setIfInBounds_toArray, List.set_cons_zero, List.set_cons_succ]
        refine take_at (i := 14) (some 80) (v := ?_) rfl rfl (by kernel_rfl) (by kernel_rfl) (by kernel_rfl) (fun _ _ _ h => h) (Or.inl ⟨by rfl, ?_⟩) (by assumption) ?_
        rotate_left
        · (intro wx hSw; go_simp; try (with_reducible rfl))
        try simp only [Act.put, List.setIfInBounds_toArray, List.set_cons_zero, List.set_cons_succ]
        refine take_at (i := 15) (some 81) (v := ?_) rfl rfl (by kernel_rfl) (by kernel_rfl) (by kernel_rfl) (fun _ _ _ h => h) (Or.inl ⟨by rfl, ?_⟩) (by assumption) ?_
        rotate_left
        · (intro wx hSw; go_simp; try (with_reducible rfl))
        try simp only [Act.put, List.setIfInBounds_toArray, List.set_cons_zero, List.set_cons_succ]
        refine take_at (i := 16) (some 82) (v := ?_) rfl rfl (by kernel_rfl) (by kernel_rfl) (by kernel_rfl) (fun _ _ _ h => h) (Or.inl ⟨by rfl, ?_⟩) (by assumption) ?_
        rotate_left
        · (intro wx hSw; go_simp; try (with_reducible rfl))
        try simp only [Act.put, List.setIfInBounds_toArray, List.set_cons_zero, List.set_cons_succ]
        refine take_at (i := 17) (some 83) (v := ?_) rfl rfl (by kernel_rfl) (by kernel_rfl) (by kernel_rfl) (fun _ _ _ h => h) (Or.inl ⟨by rfl, ?_⟩) (by assumption) ?_
        rotate_left
        · (intro wx hSw; go_simp; try (with_reducible rfl))
        try simp only [Act.put, List.setIfInBounds_toArray, List.set_cons_zero, List.set_cons_succ]
        refine wpAnyH_ready (rs := [11]) (by kernel_rfl) (by simp) ?_
        refine AllReadyH.cons rfl (fun K hK => ?_) AllReadyH.nil
        go_simp
        refine (RShort_calls r1).mono ?_
        rw [E2.out]
        rintro e wS ⟨rfl, r2, hcS⟩
        rw [show num (le 2 (Go.Proofs.Ytiibkbkcncmjoaa.u64 m), (⟨P + 3, 0, 0⟩ : RS)).1 = y2 from Y2.out]
        have q1S := hcS.cell q1R hbR
        have q2S := hcS.cell q2R hbR
        have q3S := hcS.cell q3R hbR
        go_wp2_with fail
        refine hK.out _ _ ?_ (fun hHeld => ?_)
        · ((refine ⟨?_, ?_, ?_⟩ <;> assumption))
        clear hK K
        try simp only [Act.put, List.setIfInBounds_toArray, List.set_cons_zero, List.set_cons_succ]
        refine take_at (i := 18) (some 84) (v := ?_) rfl rfl (by kernel_rfl) (by kernel_rfl) (by kernel_rfl) (fun _ _ _ h => h) (Or.inl ⟨by rfl, ?_⟩) (by assumption) ?_
        rotate_left
        · (intro wx hSw; go_simp; try (with_reducible rfl))
        try simp only [Act.put, List.setIfInBounds_toArray, List.set_cons_zero, List.set_cons_succ]
        refine take_at (i := 19) (some 85) (v := ?_) rfl rfl (by kernel_rfl) (by kernel_rfl) (by kernel_rfl) (fun _ _ _ h => h) (Or.inl ⟨by rfl, ?_⟩) (by assumption) ?_
        rotate_left
        · (intro wx hSw; go_simp; try (with_reducible rfl))
        try simp only [Act.put, List.setIfInBounds_toArray, List.set_cons_zero, List.set_cons_succ]
        refine take_at (i := 20) (some 86) (v := ?_) rfl rfl (by kernel_rfl) (by kernel_rfl) (by kernel_rfl) (fun _ _ _ h => h) (Or.inl ⟨by rfl, ?_⟩) (by assumption) ?_
        rotate_left
        · (intro wx hSw; go_simp; try (with_reducible rfl))
        try simp only [Act.put, List.setIfInBounds_toArray, List.set_cons_zero, List.set_cons_succ]
        refine take_at (i := 21) (some 87) (v := ?_) rfl rfl (by kernel_rfl) (by kernel_rfl) (by kernel_rfl) (fun _ _ _ h => h) (Or.inl ⟨by rfl, ?_⟩) (by assumption) ?_
        rotate_left
        · (intro wx hSw; go_simp; try (with_reducible rfl))
        try simp only [Act.put, List.setIfInBounds_toArray, List.set_cons_zero, List.set_cons_succ]
        refine take_at (i := 23) (some 89) (v := ?_) rfl rfl (by kernel_rfl) (by kernel_rfl) (by kernel_rfl) (fun _ _ _ h => h) (Or.inl ⟨by rfl, ?_⟩) (by assumption) ?_
        rotate_left
        · (intro wx hSw; go_simp; try (with_reducible rfl))
        try simp only [Act.put, List.setIfInBounds_toArray, List.set_cons_zero, List.set_cons_succ]
        refine take_at (i := 24) (some 90) (v := ?_) rfl rfl (by kernel_rfl) (by kernel_rfl) (by kernel_rfl) (fun _ _ _ h => h) (Or.inl ⟨by rfl, ?_⟩) (by assumption) ?_
        rotate_left
        · (intro wx hSw; go_simp; try (with_reducible rfl))
        try simp only [Act.put, List.setIfInBounds_toArray, List.set_cons_zero, List.set_cons_succ]
        refine take_at (i := 25) (some 91) (v := ?_) rfl rfl (by kernel_rfl) (by kernel_rfl) (by kernel_rfl) (fun _ _ _ h => h) (Or.inl ⟨by rfl, ?_⟩) (by assumption) ?_
        rotate_left
        · (intro wx hSw; go_simp; try (with_reducible rfl))
        try simp only [Act.put, List.setIfInBounds_toArray, List.set_cons_zero, List.set_cons_succ]
        refine take_at (i := 26) (some 92) (v := ?_) rfl rfl (by kernel_rfl) (by kernel_rfl) (by kernel_rfl) (fun _ _ _ h => h) (Or.inl ⟨by rfl, ?_⟩) (by assumption) ?_
        rotate_left
        · (intro wx hSw; go_simp; try (with_reducible rfl))
        try simp only [Act.put, List.setIfInBounds_toArray, List.set_cons_zero, List.set_cons_succ]
        refine take_at (i := 27) (some 93) (v := ?_) rfl rfl (by kernel_rfl) (by kernel_rfl) (by kernel_rfl) (fun _ _ _ h => h) (Or.inl ⟨by rfl, ?_⟩) (by assumption) ?_
        rotate_left
        · (intro wx hSw; go_simp; try (with_reducible rfl))
        try simp only [Act.put, List.setIfInBounds_toArray, List.set_cons_zero, List.set_cons_succ]
        refine wpAnyH_ready (rs := [22]) (by kernel_rfl) (by simp) ?_
        refine AllReadyH.cons rfl (fun K hK => ?_) AllReadyH.nil
        go_simp
        refine (RLong_calls r2).mono ?_
        rw [E3.out]
        rintro e wL ⟨rfl, r3, hcL⟩
        rw [show s64 (num (le 8 (Go.Proofs.Ytiibkbkcncmjoaa.u64 d), (⟨P + 11, 0, 0⟩ : RS)).1) = d from E5.out]
        have q1L := hcL.cell q1S hbR
        have q2L := hcL.cell q2S hbR
        have q3L := hcL.cell q3S hbR
        go_wp2_with fail
        refine hK.out _ _ ?_ (fun hHeld => ?_)
        · ((refine ⟨?_, ?_, ?_⟩ <;> assumption))
        clear hK K
        try simp only [Act.put, List.setIfInBounds_toArray, List.set_cons_zero, List.set_cons_succ]
        refine take_at (i := 28) (some 94) (v := ?_) rfl rfl (by kernel_rfl) (by kernel_rfl) (by kernel_rfl) (fun _ _ _ h => h) (Or.inl ⟨by rfl, ?_⟩) (by assumption) ?_
        rotate_left
        · (intro wx hSw; go_simp; try (with_reducible rfl))
        try simp only [Act.put, List.setIfInBounds_toArray, List.set_cons_zero, List.set_cons_succ]
        refine take_at (i := 29) (some 95) (v := ?_) rfl rfl (by kernel_rfl) (by kernel_rfl) (by kernel_rfl) (fun _ _ _ h => h) (Or.inl ⟨by rfl, ?_⟩) (by assumption) ?_
        rotate_left
        · (intro wx hSw; go_simp; try (with_reducible rfl))
        try simp only [Act.put, List.setIfInBounds_toArray, List.set_cons_zero, List.set_cons_succ]
        refine take_at (i := 30) (some 96) (v := ?_) rfl rfl (by kernel_rfl) (by kernel_rfl) (by kernel_rfl) (fun _ _ _ h => h) (Or.inl ⟨by rfl, ?_⟩) (by assumption) ?_
        rotate_left
        · (intro wx hSw; go_simp; try (with_reducible rfl))
        try simp only [Act.put, List.setIfInBounds_toArray, List.set_cons_zero, List.set_cons_succ]
        refine take_at (i := 31) (some 97) (v := ?_) rfl rfl (by kernel_rfl) (by kernel_rfl) (by kernel_rfl) (fun _ _ _ h => h) (Or.inl ⟨by rfl, ?_⟩) (by assumption) ?_
        rotate_left
        · (intro wx hSw; go_simp; try (with_reducible rfl))
        try simp only [Act.put, List.setIfInBounds_toArray, List.set_cons_zero, List.set_cons_succ]
        refine take_at (i := 33) (some 99) (v := ?_) rfl rfl (by kernel_rfl) (by kernel_rfl) (by kernel_rfl) (fun _ _ _ h => h) (Or.inl ⟨by rfl, ?_⟩) (by assumption) ?_
        rotate_left
        · (intro wx hSw; go_simp; try (with_reducible rfl))
        try simp only [Act.put, List.setIfInBounds_toArray, List.set_cons_zero, List.set_cons_succ]
        refine take_at (i := 34) (some 100) (v := ?_) rfl rfl (by kernel_rfl) (by kernel_rfl) (by kernel_rfl) (fun _ _ _ h => h) (Or.inl ⟨by rfl, ?_⟩) (by assumption) ?_
        rotate_left
        · (intro wx hSw; go_simp; try (with_reducible rfl))
        try simp only [Act.put, List.setIfInBounds_toArray, List.set_cons_zero, List.set_cons_succ]
        refine take_at (i := 35) (some 101) (v := ?_) rfl rfl (by kernel_rfl) (by kernel_rfl) (by kernel_rfl) (fun _ _ _ h => h) (Or.inl ⟨by rfl, ?_⟩) (by assumption) ?_
        rotate_left
        · (intro wx hSw; go_simp; try (with_reducible rfl))
        try simp only [Act.put, List.setIfInBounds_toArray, List.set_cons_zero, List.set_cons_succ]
        refine take_at (i := 36) (some 102) (v := ?_) rfl rfl (by kernel_rfl) (by kernel_rfl) (by kernel_rfl) (fun _ _ _ h => h) (Or.inl ⟨by rfl, ?_⟩) (by assumption) ?_
        rotate_left
        · (intro wx hSw; go_simp; try (with_reducible rfl))
        try simp only [Act.put, List.setIfInBounds_toArray, List.set_cons_zero, List.set_cons_succ]
        refine take_at (i := 37) (some 103) (v := ?_) rfl rfl (by kernel_rfl) (by kernel_rfl) (by kernel_rfl) (fun _ _ _ h => h) (Or.inl ⟨by rfl, ?_⟩) (by assumption) ?_
        rotate_left
        · (intro wx hSw; go_simp; try (with_reducible rfl))
        try simp only [Act.put, List.setIfInBounds_toArray, List.set_cons_zero, List.set_cons_succ]
        refine wpAnyH_ready (rs := [32]) (by kernel_rfl) (by simp) ?_
        refine AllReadyH.cons rfl (fun K hK => ?_) AllReadyH.nil
        go_simp
        refine (RText_calls r3 65535).mono ?_
        rw [E4.out]
        rintro e wT ⟨rfl, r4, hcT⟩
        rw [show str ((few s).data.toList, (⟨P2, 0, 0⟩ : RS)).1 = few s from str_self _]
        have q1T := hcT.cell q1L hbR
        have q2T := hcT.cell q2L hbR
        have q3T := hcT.cell q3L hbR
        go_wp2_with fail
        refine hK.out _ _ ?_ (fun hHeld => ?_)
        · ((refine ⟨?_, ?_, ?_⟩ <;> assumption))
        clear hK K
        try simp only [Act.put, List.setIfInBounds_toArray, List.set_cons_zero, List.set_cons_succ]
        refine wpAnyH_ready (rs := [38]) (by kernel_rfl) (by simp) ?_
        refine AllReadyH.cons rfl (fun K hK => ?_) AllReadyH.nil
        go_simp
        refine (few_calls wT s bs).mono ?_
        rintro e w5 ⟨rfl, rfl⟩
        go_wp2_with fail
        refine hK.out _ _ ?_ (fun hHeld => ?_)
        · ((refine ⟨?_, ?_, ?_⟩ <;> assumption))
        clear hK K
        try simp only [Act.put, List.setIfInBounds_toArray, List.set_cons_zero, List.set_cons_succ]
        refine take_at (i := 39) (some 105) (v := ?_) rfl rfl (by kernel_rfl) (by kernel_rfl) (by kernel_rfl) (fun _ _ _ h => h) (Or.inl ⟨by rfl, ?_⟩) (by assumption) ?_
        rotate_left
        · (intro wx hSw; go_simp; try (with_reducible rfl))
        try simp only [Act.put, List.setIfInBounds_toArray, List.set_cons_zero, List.set_cons_succ]
        refine take_at (i := 40) (some 106) (v := ?_) rfl rfl (by kernel_rfl) (by kernel_rfl) (by kernel_rfl) (fun _ _ _ h => h) (Or.inl ⟨by rfl, ?_⟩) (by assumption) ?_
        rotate_left
        · (intro wx hSw; go_simp; try (with_reducible rfl))
        try simp only [Act.put, List.setIfInBounds_toArray, List.set_cons_zero, List.set_cons_succ]
        refine wpAnyH_done (by kernel_rfl) ?_ _
        go_wp2_with fail
        go_roundw
        case rel => exact ⟨J + 1, by omega, by go_num, (by rw [HP2.out]; exact r4), (((((a.drew).trans hcR (fun i _ h => by omega)).trans hcS (fun i _ h => by omega)).trans hcL (fun i _ h => by omega)).trans hcT (fun i _ h => by omega))⟩
        case measure => simp [intOf]; omega
      · have hJe : J = N := by omega
        subst hJe
        rw [HL.out] at r
        have hJ60 : ¬ (J < n1 ∧ J < 60) := by omega
        have hcase2 : ¬ J < n1 ∨ (J < n1 ∧ ¬ J < 60) := by omega
        rcases hcase2 with h2 | ⟨h2, h3⟩
        all_goals
          go_wp2_with fail
          refine (End_calls r).mono ?_
          rw [show rwhy L ⟨L.length, 0, 0⟩ = 0 by rw [rwhy, if_pos rfl, if_neg (by simp)], show rwhere L ⟨L.length, 0, 0⟩ = 0 by rw [rwhere, if_pos rfl, if_neg (by simp)]]
          rintro e w5 ⟨rfl, d5, rfl⟩
          have a5 := a.drewN d5
          have r5 := r.keep ((Chg.refl _ wq).drewN d5)
          go_wp2_with fail
          refine (Left_calls r5).mono ?_
          rw [show rleft L ⟨L.length, 0, 0⟩ = 0 by rw [rleft, if_pos rfl]; simp]
          rintro e w6 ⟨rfl, d6, rfl⟩
          have a6 := a5.drewN d6
          go_wp2_with fail
          refine (known1 _).mono ?_
          rintro e w9 ⟨rfl, hc9⟩
          go_wp2_with fail
          go_ret
          have a9 : Chg (fun k => D ≤ k) w w9 := (a.drewN (d5 + d6)).trans hc9 (fun _ _ h => h.elim)
          exact ⟨rfl, a9.new fun k hk h => by have := HD.out; omega⟩
end Go.Proofs.Ytiibkbkcncmjoaa
