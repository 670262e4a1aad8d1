/-
  SessionLoads: Load of any bytes, and of saved ones that were turned, ends: a table, or ErrForm; one that was loaded goes its own way: the walk through the law.
-/
import Derived.Test.YtiibkbkcncmjoaaKnown17
import Derived.Test.YtiibkbkcncmjoaaTame
import Derived.Test.YtiibkbkcncmjoaaSAsks
import Derived.Deep.CutBlock
namespace Go.Proofs.Ytiibkbkcncmjoaa
open Go.RowKit
set_option linter.unusedVariables false
set_option linter.unusedSimpArgs false

theorem bv_set (l : List UInt8) (j : Nat) (x : Nat) (hx : x < 256) : (bv l).set j (.int .u8 (x : Int)) = bv (l.set j (UInt8.ofNat x)) := by
  have h256 : (UInt8.ofNat x).toNat = x := by rw [UInt8.toNat_ofNat']; exact Nat.mod_eq_of_lt hx
  simp only [bv, List.map_set, h256]
theorem rem_nat' (m d : Nat) : (m : Int).tmod (d : Int) = ((m % d : Nat) : Int) := by
  rw [Int.tmod_eq_emod_of_nonneg (by omega)]; omega

set_option maxRecDepth 100000 in
set_option maxHeartbeats 8000000 in
theorem loads_walk {w : World} {A0 A1 : Option Addr} {n0 c0 n1 c1 : Nat} {l0 : List UInt8} {at_ turn : Int} (hb : BytesArg w A0 n0 c0 l0) (hz0 : c0 ≤ 140737488355328) (hp : SAsksArg w A1 n1 c1) (hat_ : -9223372036854775808 ≤ at_ ∧ at_ ≤ 9223372036854775807) (hturn : 0 ≤ turn ∧ turn ≤ 255) :
    Calls Try.prog 12 #[.slice A0 n0 c0, .slice A1 n1 c1, .int .i64 at_, .int .u8 turn] w (Holds1 w) := by
  have hrep := rep_def
  obtain ⟨tn, rfl⟩ := Int.eq_ofNat_of_zero_le hturn.1
  have htn : tn < 256 := by omega
  obtain ⟨hbs, hbc, hbm⟩ := hb
  obtain ⟨hnc1, hcm1, hall⟩ := hp
  have HALL := Lib.hid hall
  have HBS := Lib.hid hbs
  clear hall hbs hturn
  go_enter Try.func12, Try.ntmps12
  go_wp2_with fail
  refine (Tbl_new w).mono ?_
  rintro e w1 ⟨rfl, ht1, hc1⟩
  obtain ⟨T, hT⟩ : ∃ T, w.heap.size = T := ⟨_, rfl⟩
  rw [hT] at ht1 ⊢
  have HT := Lib.hid hT
  have a1 : Chg (fun k => T ≤ k) w w1 := hc1.wide
  clear hT hc1
  go_upto_block 0 with fail
  go_cut [10] (fun v wx => ∃ f, STame f ∧ TblAt wx T f ∧ Chg (fun k => T ≤ k) w wx)
  case first =>
    go_wp2_with fail
    go_loopw [10] (fun i wr => ∃ (I : Nat) (f : Nat → SRec), I ≤ n1 ∧ I ≤ 10 ∧ i = .int .i64 I ∧ STame f ∧ TblAt wr T f ∧ Chg (fun k => T ≤ k) w wr) (fun i _ => n1 - (intOf i).toNat)
    case atStart => exact ⟨0, _, Nat.zero_le _, Nat.zero_le _, rfl, tame_zero, ht1, a1⟩
    case round =>
      clear ht1 a1
      obtain ⟨I, f, hI1, hI2, rfl, hf, ht, a⟩ := hrel
      by_cases hrun : I < n1 ∧ I < 10
      · obtain ⟨hlt, h10⟩ := hrun
        obtain ⟨b, off, rfl, hbw, hat⟩ := HALL.out (by omega)
        obtain ⟨k, cl, q, y, aa, z, ⟨q0, q1, q2, q3, q4, q5⟩, bk, bc, bq, by_, ba, bz⟩ := hat I hlt
        have hbT : ¬ T ≤ b := by have := HT.out; omega
        have q1 := a.cell q1 hbT
        have q2 := a.cell q2 hbT
        have q3 := a.cell q3 hbT
        have q4 := a.cell q4 hbT
        have q5 := a.cell q5 hbT
        clear q0 hat bk
        by_cases hz : z.size < 100
        · have hz' : (z.size : Int) < 100 := by omega
          have hIn : (I : Int) < (n1 : Int) := by omega
          go_wp2_with fail
          refine wp_region_held_drew (S := fun wx => wx.cell? ⟨b, off + I * 6 + 1, none⟩ = some (.int .i64 cl) ∧ wx.cell? ⟨b, off + I * 6 + 2, none⟩ = some (.int .i64 q) ∧ wx.cell? ⟨b, off + I * 6 + 3, none⟩ = some (.int .i64 y) ∧ wx.cell? ⟨b, off + I * 6 + 4, none⟩ = some (.int .i64 aa) ∧ wx.cell? ⟨b, off + I * 6 + 5, none⟩ = some (.string z)) (by kernel_rfl) ⟨q1, q2, q3, q4, q5⟩ (fun hHeld => ?_)
          refine take_at (i := 0) (some 40) (v := ?_) rfl rfl (by kernel_rfl) (by kernel_rfl) (by kernel_rfl) (fun _ _ _ h => h) (Or.inl ⟨by rfl, ?_⟩) (by assumption) ?_
          rotate_left
          · (intro wx hSw; go_simp; try (with_reducible rfl))
          try simp only [Act.put, List.setIfInBounds_toArray, List.set_cons_zero, List.set_cons_succ]
          refine take_at (i := 1) (some 41) (v := ?_) rfl rfl (by kernel_rfl) (by kernel_rfl) (by kernel_rfl) (fun _ _ _ h => h) (Or.inl ⟨by rfl, ?_⟩) (by assumption) ?_
          rotate_left
          · (intro wx hSw; go_simp; try (with_reducible rfl))
          try simp only [Act.put, List.setIfInBounds_toArray, List.set_cons_zero, List.set_cons_succ]
          refine take_at (i := 2) (some 42) (v := ?_) rfl rfl (by kernel_rfl) (by kernel_rfl) (by kernel_rfl) (fun _ _ _ h => h) (Or.inl ⟨by rfl, ?_⟩) (by assumption) ?_
          rotate_left
          · (intro wx hSw; go_simp; try (with_reducible rfl))
          try simp only [Act.put, List.setIfInBounds_toArray, List.set_cons_zero, List.set_cons_succ]
          refine take_at (i := 3) (some 43) (v := ?_) rfl rfl (by kernel_rfl) (by kernel_rfl) (by kernel_rfl) (fun _ _ _ h => h) (Or.inl ⟨by rfl, ?_⟩) (by assumption) ?_
          rotate_left
          · (intro wx hSw; go_simp; try (with_reducible rfl))
          try simp only [Act.put, List.setIfInBounds_toArray, List.set_cons_zero, List.set_cons_succ]
          refine take_at (i := 4) (some 44) (v := ?_) rfl rfl (by kernel_rfl) (by kernel_rfl) (by kernel_rfl) (fun _ _ _ h => h) (Or.inl ⟨by rfl, ?_⟩) (by assumption) ?_
          rotate_left
          · (intro wx hSw; go_simp; try (with_reducible rfl))
          try simp only [Act.put, List.setIfInBounds_toArray, List.set_cons_zero, List.set_cons_succ]
          refine take_at (i := 5) (some 45) (v := ?_) rfl rfl (by kernel_rfl) (by kernel_rfl) (by kernel_rfl) (fun _ _ _ h => h) (Or.inl ⟨by rfl, ?_⟩) (by assumption) ?_
          rotate_left
          · (intro wx hSw; go_simp; try (with_reducible rfl))
          try simp only [Act.put, List.setIfInBounds_toArray, List.set_cons_zero, List.set_cons_succ]
          refine take_at (i := 6) (some 46) (v := ?_) rfl rfl (by kernel_rfl) (by kernel_rfl) (by kernel_rfl) (fun _ _ _ h => h) (Or.inl ⟨by rfl, ?_⟩) (by assumption) ?_
          rotate_left
          · (intro wx hSw; go_simp; try (with_reducible rfl))
          try simp only [Act.put, List.setIfInBounds_toArray, List.set_cons_zero, List.set_cons_succ]
          refine take_at (i := 7) (some 47) (v := ?_) rfl rfl (by kernel_rfl) (by kernel_rfl) (by kernel_rfl) (fun _ _ _ h => h) (Or.inl ⟨by rfl, ?_⟩) (by assumption) ?_
          rotate_left
          · (intro wx hSw; go_simp; try (with_reducible rfl))
          try simp only [Act.put, List.setIfInBounds_toArray, List.set_cons_zero, List.set_cons_succ]
          refine take_at (i := 8) (some 48) (v := ?_) rfl rfl (by kernel_rfl) (by kernel_rfl) (by kernel_rfl) (fun _ _ _ h => h) (Or.inl ⟨by rfl, ?_⟩) (by assumption) ?_
          rotate_left
          · (intro wx hSw; go_simp; try (with_reducible rfl))
          try simp only [Act.put, List.setIfInBounds_toArray, List.set_cons_zero, List.set_cons_succ]
          refine take_at (i := 9) (some 49) (v := ?_) rfl rfl (by kernel_rfl) (by kernel_rfl) (by kernel_rfl) (fun _ _ _ h => h) (Or.inl ⟨by rfl, ?_⟩) (by assumption) ?_
          rotate_left
          · (intro wx hSw; go_simp; try (with_reducible rfl))
          try simp only [Act.put, List.setIfInBounds_toArray, List.set_cons_zero, List.set_cons_succ]
          refine take_at (i := 10) (some 50) (v := ?_) rfl rfl (by kernel_rfl) (by kernel_rfl) (by kernel_rfl) (fun _ _ _ h => h) (Or.inl ⟨by rfl, ?_⟩) (by assumption) ?_
          rotate_left
          · (intro wx hSw; go_simp; try (with_reducible rfl))
          try simp only [Act.put, List.setIfInBounds_toArray, List.set_cons_zero, List.set_cons_succ]
          refine take_at (i := 11) (some 51) (v := ?_) rfl rfl (by kernel_rfl) (by kernel_rfl) (by kernel_rfl) (fun _ _ _ h => h) (Or.inl ⟨by rfl, ?_⟩) (by assumption) ?_
          rotate_left
          · (intro wx hSw; go_simp; try (with_reducible rfl))
          try simp only [Act.put, List.setIfInBounds_toArray, List.set_cons_zero, List.set_cons_succ]
          refine take_at (i := 12) (some 52) (v := ?_) rfl rfl (by kernel_rfl) (by kernel_rfl) (by kernel_rfl) (fun _ _ _ h => h) (Or.inl ⟨by rfl, ?_⟩) (by assumption) ?_
          rotate_left
          · (intro wx hSw; go_simp; try (with_reducible rfl))
          try simp only [Act.put, List.setIfInBounds_toArray, List.set_cons_zero, List.set_cons_succ]
          refine take_at (i := 13) (some 53) (v := ?_) rfl rfl (by kernel_rfl) (by kernel_rfl) (by kernel_rfl) (fun _ _ _ h => h) (Or.inl ⟨by rfl, ?_⟩) (by assumption) ?_
          rotate_left
          · (intro wx hSw; go_simp; try (with_reducible rfl))
          try simp only [Act.put, List.setIfInBounds_toArray, List.set_cons_zero, List.set_cons_succ]
          refine take_at (i := 14) (some 54) (v := ?_) rfl rfl (by kernel_rfl) (by kernel_rfl) (by kernel_rfl) (fun _ _ _ h => h) (Or.inl ⟨by rfl, ?_⟩) (by assumption) ?_
          rotate_left
          · (intro wx hSw; go_simp; try (with_reducible rfl))
          try simp only [Act.put, List.setIfInBounds_toArray, List.set_cons_zero, List.set_cons_succ]
          refine take_at (i := 15) (some 55) (v := ?_) rfl rfl (by kernel_rfl) (by kernel_rfl) (by kernel_rfl) (fun _ _ _ h => h) (Or.inl ⟨by rfl, ?_⟩) (by assumption) ?_
          rotate_left
          · (intro wx hSw; go_simp; try (with_reducible rfl))
          try simp only [Act.put, List.setIfInBounds_toArray, List.set_cons_zero, List.set_cons_succ]
          refine wpAnyH_ready (rs := [16]) (by kernel_rfl) (by simp) ?_
          refine AllReadyH.cons rfl (fun K hK => ?_) AllReadyH.nil
          go_simp
          refine (SDone_calls (c := cl) (q := q) (y := y) (a := aa) (z := z) (ht.keep ((Chg.refl _ wr).drew)) bc bq).mono ?_
          rintro e w2 ⟨rfl, ht2, hc2⟩
          have q1x := hc2.cell (p := ⟨b, off + I * 6 + 1, none⟩) q1 (by simp only; omega)
          have q2x := hc2.cell (p := ⟨b, off + I * 6 + 2, none⟩) q2 (by simp only; omega)
          have q3x := hc2.cell (p := ⟨b, off + I * 6 + 3, none⟩) q3 (by simp only; omega)
          have q4x := hc2.cell (p := ⟨b, off + I * 6 + 4, none⟩) q4 (by simp only; omega)
          have q5x := hc2.cell (p := ⟨b, off + I * 6 + 5, none⟩) q5 (by simp only; omega)
          go_wp2_with fail
          refine hK.out _ _ ?_ (fun hHeld => ?_)
          · (exact ⟨q1x, q2x, q3x, q4x, q5x⟩)
          clear hK K
          try simp only [Act.put, List.setIfInBounds_toArray, List.set_cons_zero, List.set_cons_succ]
          refine wpAnyH_done (by kernel_rfl) ?_ _
          go_wp2_with fail
          go_roundw
          case rel => exact ⟨I + 1, _, by omega, by omega, by go_num, tame_done hf by_ ba (by omega), ht2, (a.drew).trans hc2 (fun i _ h => by omega)⟩
          case measure => simp [intOf]; omega
        · have hz' : ¬ (z.size : Int) < 100 := by omega
          go_wp2_with fail
          go_roundw
          case rel => exact ⟨I + 1, f, by omega, by omega, by go_num, hf, ht, a⟩
          case measure => simp [intOf]; omega
      · have hcase : ¬ I < n1 ∨ (I < n1 ∧ ¬ I < 10) := by omega
        rcases hcase with hIn | ⟨hIn, hI10⟩
        all_goals
          go_wp2_with fail
          go_meet
          exact ⟨f, hf, ht, a⟩
  case rest =>
    obtain ⟨f, hf, ht, a⟩ := hcut
    clear ht1 a1
    obtain ⟨w2, rfl⟩ : ∃ x : World, x = wc := ⟨_, rfl⟩
    have hsv := tame_save hf
    go_wp2_with fail
    refine (Save_calls ht (by omega)).mono ?_
    rintro e w3 ⟨oS, AS, cS, rfl, hS, hnS, hc3⟩
    have ht3 := ht.keep hc3
    have a3 := a.trans hc3 (fun _ _ h => h.elim)
    have hz2 := ht.lt
    have hgood := good_saved (f := f) (fun k _ => (hf k).1) (fun k _ => (hf k).2.1)
    have HG := Lib.hid hgood
    have hpos : 0 < (ssave f 16).length := ssave_pos f
    generalize ssave f 16 = L at hS HG hsv hpos ⊢
    clear hgood ht a
    go_wp2_with fail
    refine (Load_calls hS.cs (by omega)).mono ?_
    rintro e w4 ⟨hc4, ⟨rfl, hbad⟩ | ⟨U, rfl, hU, htU, -⟩⟩
    · exact absurd HG.out.1 hbad
    have htU := htU.congr (g := f) HG.out.2
    have ht4 := ht3.keep hc4
    have hS4 := hS.chg hc4 (fun _ _ h => h)
    have a4 := a3.trans hc4 (fun _ _ h => h.elim)
    have hz3 := ht3.lt
    have hS3lt := fun g h => hS.lt (g := g) h
    clear ht3 a3 hS HG
    have hTU : ¬ T = U := by omega
    go_wp2_with fail
    refine (Last_calls (c := 3) ht4 (by decide)).mono ?_
    rintro e w5 ⟨rfl, q5, rfl⟩
    go_wp2_with fail
    refine (SDone_calls (c := 3) (q := 1073741824) (y := 0) (a := 0) (z := ⟨#[]⟩) (htU.keep ((Chg.refl _ w4).drewN q5)) (by decide) (by decide)).mono ?_
    rintro e w6 ⟨rfl, htU6, hc6⟩
    have k6 : Chg (fun i => i = U) w4 w6 := ((Chg.refl (fun i => i = U) w4).drewN q5).trans hc6 (fun _ _ h => h)
    have ht6 := ht4.chg k6 hTU
    have hS6 := hS4.chg k6 (fun k hk h => by have := hS3lt k hk; omega)
    have a6 := a4.trans k6 (fun _ _ h => by omega)
    clear ht4 hS4 a4 htU hc6
    go_wp2_with fail
    refine (Last_calls (c := 3) ht6 (by decide)).mono ?_
    rintro e w7 ⟨rfl, q7, rfl⟩
    have k7 : Chg (fun _ => False) w6 (w6.drewN q7) := (Chg.refl _ w6).drewN q7
    generalize slast f 3 = y3
    have hy3 : (y3 != y3) = false := by simp
    go_wp2_with fail
    refine (Last_calls (c := 3) (htU6.keep k7) (by decide)).mono ?_
    rw [last_most hf]
    rintro e w8 ⟨rfl, q8, rfl⟩
    have k8 : Chg (fun _ => False) w6 (w6.drewN (q7 + q8)) := (Chg.refl _ w6).drewN (q7 + q8)
    have hS8 := hS6.chg k8 (fun _ _ h => h)
    have a8 := a6.trans k8 (fun _ _ h => h.elim)
    obtain ⟨n, hn⟩ : ∃ n, L.length = n := ⟨_, rfl⟩
    rw [hn] at hS8 hsv hpos ⊢
    have HN := Lib.hid hn
    have hnp : (0 : Int) < (n : Int) := by omega
    clear ht6 hS6 a6 htU6 hn
    go_upto_if 88 with fail
    generalize w6.drewN (q7 + q8) = w9 at hS8 a8 ⊢
    go_cut [2] (fun s wx => ∃ m : Nat, (m : Int) ≤ 9223372036854775807 ∧ s = .int .i64 (m : Int) ∧ w9 = wx)
    case first =>
      by_cases h : at_ < 0
      · have v1 := IntWalk.i64_in (at_ + 1) (by omega)
        have v2 := IntWalk.i64_in (-(at_ + 1)) (by omega)
        go_wp2_with fail
        go_meet
        exact ⟨(-(at_ + 1)).toNat, by omega, by congr 1; omega, rfl⟩
      · go_wp2_with fail
        go_meet
        exact ⟨at_.toNat, by omega, by congr 1; omega, rfl⟩
    case rest =>
      obtain ⟨m, hm, rfl, rfl⟩ := hcut
      have hr : (m : Int).tmod (n : Int) = ((m % n : Nat) : Int) := rem_nat' m n
      have hj : m % n < n := Nat.mod_lt _ (by omega)
      obtain ⟨j, hjm⟩ : ∃ j, m % n = j := ⟨_, rfl⟩
      rw [hjm] at hr hj
      have hjL : j < L.length := by have := HN.out; omega
      obtain ⟨g, hg, hA, hcell, hfz⟩ := hS8.cells (bv_get hjL)
      have hnSg := hnS g hg
      have hv256 : (L[j].toNat) < 256 := L[j].toNat_lt
      obtain ⟨v, hv⟩ : ∃ v, L[j].toNat = v := ⟨_, rfl⟩
      rw [hv] at hcell hv256
      have hx256 : v ^^^ tn < 256 := Nat.xor_lt_two_pow (n := 8) hv256 htn
      have hxor := u8_xor_nat v tn hv256 htn
      have hset := hS8.set hg j (.int .u8 ((v ^^^ tn : Nat) : Int))
      rw [bv_set _ _ _ hx256] at hset
      generalize L.set j (UInt8.ofNat (v ^^^ tn)) = L2 at hset
      generalize v ^^^ tn = x at hset hxor
      subst hA
      have a10 := a8.setIn (D := g) (show T ≤ g by omega) j (.int .u8 (x : Int))
      have HSET := Lib.hid hset
      have hj0 : (0 : Int) ≤ (j : Int) := by omega
      have hj1 : (j : Int) < (n : Int) := by omega
      have hn0 : ((n : Int) == 0) = false := beq_eq_false_iff_ne.2 (by omega)
      have hn1 : ¬ n = 0 := by omega
      clear hjm hv hset hS8
      go_wp2_with fail
      refine wp_region_held_drew (S := fun _ => True) (by kernel_rfl) trivial (fun hHeld => ?_)
      refine take_at (i := 0) (some 92) (v := ?_) rfl rfl (by kernel_rfl) (by kernel_rfl) (by kernel_rfl) (fun _ _ _ h => h) (Or.inl ⟨by rfl, ?_⟩) (by assumption) ?_
      rotate_left
      · (intro wx hSw; go_simp; try (with_reducible rfl))
      try simp only [Act.put, List.setIfInBounds_toArray, List.set_cons_zero, List.set_cons_succ]
      refine take_at (i := 1) (some 93) (v := ?_) rfl rfl (by kernel_rfl) (by kernel_rfl) (by kernel_rfl) (fun _ _ _ h => h) (Or.inl ⟨by rfl, ?_⟩) (by assumption) ?_
      rotate_left
      · (intro wx hSw; go_simp; try (with_reducible rfl))
      try simp only [Act.put, List.setIfInBounds_toArray, List.set_cons_zero, List.set_cons_succ]
      refine take_at (i := 2) (some 94) (v := ?_) rfl rfl (by kernel_rfl) (by kernel_rfl) (by kernel_rfl) (fun _ _ _ h => h) (Or.inl ⟨by rfl, ?_⟩) (by assumption) ?_
      rotate_left
      · (intro wx hSw; go_simp; try (with_reducible rfl))
      try simp only [Act.put, List.setIfInBounds_toArray, List.set_cons_zero, List.set_cons_succ]
      refine take_at (i := 3) (some 95) (v := ?_) rfl rfl (by kernel_rfl) (by kernel_rfl) (by kernel_rfl) (fun _ _ _ h => h) (Or.inl ⟨by rfl, ?_⟩) (by assumption) ?_
      rotate_left
      · (intro wx hSw; go_simp; try (with_reducible rfl))
      try simp only [Act.put, List.setIfInBounds_toArray, List.set_cons_zero, List.set_cons_succ]
      refine take_at (i := 4) (some 96) (v := ?_) rfl rfl (by kernel_rfl) (by kernel_rfl) (by kernel_rfl) (fun _ _ _ h => h) (Or.inl ⟨by rfl, ?_⟩) (by assumption) ?_
      rotate_left
      · (intro wx hSw; go_simp; try (with_reducible rfl))
      try simp only [Act.put, List.setIfInBounds_toArray, List.set_cons_zero, List.set_cons_succ]
      refine take_at (i := 5) (some 97) (v := ?_) rfl rfl (by kernel_rfl) (by kernel_rfl) (by kernel_rfl) (fun _ _ _ h => h) (Or.inl ⟨by rfl, ?_⟩) (by assumption) ?_
      rotate_left
      · (intro wx hSw; go_simp; try (with_reducible rfl))
      try simp only [Act.put, List.setIfInBounds_toArray, List.set_cons_zero, List.set_cons_succ]
      refine take_at (i := 6) (some 98) (v := ?_) rfl rfl (by kernel_rfl) (by kernel_rfl) (by kernel_rfl) (fun _ _ _ h => h) (Or.inl ⟨by rfl, ?_⟩) (by assumption) ?_
      rotate_left
      · (intro wx hSw; go_simp; try (with_reducible rfl))
      try simp only [Act.put, List.setIfInBounds_toArray, List.set_cons_zero, List.set_cons_succ]
      refine take_at (i := 7) (some 99) (v := ?_) rfl rfl (by kernel_rfl) (by kernel_rfl) (by kernel_rfl) (fun _ _ _ h => h) (Or.inl ⟨by rfl, ?_⟩) (by assumption) ?_
      rotate_left
      · (intro wx hSw; go_simp; try (with_reducible rfl))
      try simp only [Act.put, List.setIfInBounds_toArray, List.set_cons_zero, List.set_cons_succ]
      refine take_at (i := 8) (some 100) (v := ?_) rfl rfl (by kernel_rfl) (by kernel_rfl) (by kernel_rfl) (fun _ _ _ h => h) (Or.inl ⟨by rfl, ?_⟩) (by assumption) ?_
      rotate_left
      · (intro wx hSw; go_simp; try (with_reducible rfl))
      try simp only [Act.put, List.setIfInBounds_toArray, List.set_cons_zero, List.set_cons_succ]
      refine take_at (i := 9) (some 101) (v := ?_) rfl rfl (by kernel_rfl) (by kernel_rfl) (by kernel_rfl) (fun _ _ _ h => h) (Or.inl ⟨by rfl, ?_⟩) (by assumption) ?_
      rotate_left
      · (intro wx hSw; go_simp; try (with_reducible rfl))
      try simp only [Act.put, List.setIfInBounds_toArray, List.set_cons_zero, List.set_cons_succ]
      refine take_at (i := 10) (some 102) (v := ?_) rfl rfl (by kernel_rfl) (by kernel_rfl) (by kernel_rfl) (fun _ _ _ h => h) (Or.inl ⟨by rfl, ?_⟩) (by assumption) ?_
      rotate_left
      · (intro wx hSw; go_simp; try (with_reducible rfl))
      try simp only [Act.put, List.setIfInBounds_toArray, List.set_cons_zero, List.set_cons_succ]
      refine take_at (i := 12) (some 104) (v := ?_) rfl rfl (by kernel_rfl) (by kernel_rfl) (by kernel_rfl) (fun _ _ _ h => h) (Or.inl ⟨by rfl, ?_⟩) (by assumption) ?_
      rotate_left
      · (intro wx hSw; go_simp; try (with_reducible rfl))
      try simp only [Act.put, List.setIfInBounds_toArray, List.set_cons_zero, List.set_cons_succ]
      refine wpAnyH_ready (rs := [11]) (by kernel_rfl) (by simp) ?_
      refine AllReadyH.cons rfl (fun K hK => ?_) AllReadyH.nil
      go_simp
      refine hK.out _ _ ?_ (fun hHeld => ?_)
      · (trivial)
      clear hK K
      try simp only [Act.put, List.setIfInBounds_toArray, List.set_cons_zero, List.set_cons_succ]
      refine take_at (i := 13) (some 105) (v := ?_) rfl rfl (by kernel_rfl) (by kernel_rfl) (by kernel_rfl) (fun _ _ _ h => h) (Or.inl ⟨by rfl, ?_⟩) (by assumption) ?_
      rotate_left
      · (intro wx hSw; go_simp; try (with_reducible rfl))
      try simp only [Act.put, List.setIfInBounds_toArray, List.set_cons_zero, List.set_cons_succ]
      refine take_at (i := 14) (some 106) (v := ?_) rfl rfl (by kernel_rfl) (by kernel_rfl) (by kernel_rfl) (fun _ _ _ h => h) (Or.inl ⟨by rfl, ?_⟩) (by assumption) ?_
      rotate_left
      · (intro wx hSw; go_simp; try (with_reducible rfl))
      try simp only [Act.put, List.setIfInBounds_toArray, List.set_cons_zero, List.set_cons_succ]
      refine wpAnyH_ready (rs := [15]) (by kernel_rfl) (by simp) ?_
      refine AllReadyH.cons rfl (fun K hK => ?_) AllReadyH.nil
      go_simp
      refine hK.out _ _ ?_ (fun hHeld => ?_)
      · (trivial)
      clear hK K
      try simp only [Act.put, List.setIfInBounds_toArray, List.set_cons_zero, List.set_cons_succ]
      refine wpAnyH_done (by kernel_rfl) ?_ _
      have kW : Chg (fun _ => False) (w9.setCell ⟨g, j, none⟩ (.int .u8 (x : Int))) (((w9.setCell ⟨g, j, none⟩ (.int .u8 (x : Int))).alloc (.cells #[.slice A0 n0 c0, .slice (some ⟨g, 0, none⟩) n cS] 22)).drew) := ((Chg.refl _ _).alloc _).drew
      have hL2 := HSET.out.cs.chg kW (fun _ _ _ h => h)
      have aW := a10.trans kW (fun _ _ h => h.elim)
      have hhY : (((w9.setCell ⟨g, j, none⟩ (.int .u8 (x : Int))).alloc (.cells #[.slice A0 n0 c0, .slice (some ⟨g, 0, none⟩) n cS] 22)).drew).heap[w9.heap.size]? = some (.cells #[.slice A0 n0 c0, .slice (some ⟨g, 0, none⟩) n cS] 22 (0, 0)) := by
        have := heap_alloc_new (w9.setCell ⟨g, j, none⟩ (.int .u8 (x : Int))) (.cells #[.slice A0 n0 c0, .slice (some ⟨g, 0, none⟩) n cS] 22)
        rw [World.size_setCell] at this
        exact this
      go_wp2_with fail
      generalize ((w9.setCell ⟨g, j, none⟩ (.int .u8 (x : Int))).alloc (.cells #[.slice A0 n0 c0, .slice (some ⟨g, 0, none⟩) n cS] 22)).drew = W0 at hL2 aW hhY ⊢
      have y0 : W0.cell? ⟨w9.heap.size, 0, none⟩ = some (.slice A0 n0 c0) := by simp only [World.cell?]; rw [hhY]; rfl
      have y1 : W0.cell? ⟨w9.heap.size, 1, none⟩ = some (.slice (some ⟨g, 0, none⟩) n cS) := by simp only [World.cell?]; rw [hhY]; rfl
      have hb0 := HBS.out.chg (aW.new fun k hk h => by have := HT.out; omega) (fun _ _ _ h => h)
      go_loopw [111] (fun i wr => ∃ k : Nat, k ≤ 2 ∧ i = .int .i64 k ∧ Chg (fun _ => False) W0 wr) (fun i _ => 2 - (intOf i).toNat)
      case atStart => exact ⟨0, Nat.zero_le _, rfl, Chg.refl _ _⟩
      case round =>
        obtain ⟨k, hk, rfl, c⟩ := hrel
        have hcase : k = 0 ∨ k = 1 ∨ k = 2 := by omega
        rcases hcase with rfl | rfl | rfl
        · have y0' := c.cell y0 (fun h => h)
          go_wp2_with fail
          refine (Load_calls (hb0.chg c (fun _ _ _ h => h)) (by omega)).mono ?_
          rintro e wl ⟨hcl, ⟨rfl, -⟩ | ⟨U', rfl, -, -, -⟩⟩
          · go_wp2_with fail
            go_roundw
            case rel => exact ⟨1, by omega, rfl, c.trans hcl (fun _ _ h => h)⟩
            case measure => simp [intOf]
          · go_wp2_with fail
            go_roundw
            case rel => exact ⟨1, by omega, rfl, c.trans hcl (fun _ _ h => h)⟩
            case measure => simp [intOf]
        · have y1' := c.cell y1 (fun h => h)
          go_wp2_with fail
          refine (Load_calls (hL2.chg c (fun _ _ _ h => h)) (by omega)).mono ?_
          rintro e wl ⟨hcl, ⟨rfl, -⟩ | ⟨U', rfl, -, -, -⟩⟩
          · go_wp2_with fail
            go_roundw
            case rel => exact ⟨2, by omega, rfl, c.trans hcl (fun _ _ h => h)⟩
            case measure => simp [intOf]
          · go_wp2_with fail
            go_roundw
            case rel => exact ⟨2, by omega, rfl, c.trans hcl (fun _ _ h => h)⟩
            case measure => simp [intOf]
        · go_wp2_with fail
          refine (known17 _).mono ?_
          rintro e wE ⟨rfl, hcE⟩
          go_wp2_with fail
          go_ret
          have aE : Chg (fun k => T ≤ k) w wE := (aW.trans c (fun _ _ h => h.elim)).trans hcE (fun _ _ h => h.elim)
          exact ⟨rfl, aE.new fun k hk h => by have := HT.out; omega⟩
end Go.Proofs.Ytiibkbkcncmjoaa
