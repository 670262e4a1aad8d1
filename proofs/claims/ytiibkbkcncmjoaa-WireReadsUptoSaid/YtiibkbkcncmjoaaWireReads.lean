/-
  WireReads: a Reader reads, and refuses, as the document says: the walk through the law. Condition: each text has at most 1048576 bytes, and so have the bytes.
-/
import Derived.Test.YtiibkbkcncmjoaaWritten
import Derived.Test.YtiibkbkcncmjoaaRefRead
import Derived.Test.YtiibkbkcncmjoaaRegion
import Derived.Deep.CutBlock
import Derived.Deep.DeepCutAuto
namespace Go.Proofs.Ytiibkbkcncmjoaa
open Go.RowKit
set_option linter.unusedVariables false
set_option linter.unusedSimpArgs false

set_option maxRecDepth 100000 in
set_option maxHeartbeats 8000000 in
theorem reads_walk {w : World} {A0 A1 A2 : Option Addr} {n0 c0 n1 c1 n2 c2 : Nat} {l0 : List UInt8} (hb : BytesArg w A0 n0 c0 l0) (hz0 : n0 ≤ 1048576) (hp : PartsArg 1048576 w A1 n1 c1) (hp2 : PartsArg 1048576 w A2 n2 c2) :
    Calls Try.prog 7 #[.slice A0 n0 c0, .slice A1 n1 c1, .slice A2 n2 c2] w (Holds1 w) := by
  have hsl := str_toList
  obtain ⟨q, hq⟩ := parts_of hp
  obtain ⟨q2, hq2⟩ := parts_of hp2
  obtain ⟨hnc1, hcm1, -⟩ := hp
  obtain ⟨hnc2, hcm2, -⟩ := hp2
  obtain ⟨hbs, hbc, hbm⟩ := hb
  have hwl := wall_length hq.small (min n1 40) (by omega)
  have hll : l0.length = n0 := by rw [← bv_length]; exact hbs.1
  have HQ := Lib.hid hq
  have HQ2 := Lib.hid hq2
  have HLL := Lib.hid hll
  clear hq hq2 hll
  go_enter Try.func7, Try.ntmps7
  go_wp2_with fail
  refine (written_calls HQ.out hnc1 hcm1).mono ?_
  obtain ⟨W, hW⟩ : ∃ W, wall q (min n1 40) = W := ⟨_, rfl⟩
  rw [hW] at hwl ⊢
  have hWl : W.length ≤ 41943360 := by omega
  clear hwl hW
  rintro e w1 ⟨o1, X1, cap1, rfl, hown1, hn1, hc1'⟩
  obtain ⟨D, hD⟩ : ∃ D, w.heap.size = D := ⟨_, rfl⟩
  rw [hD] at hn1
  have HD := Lib.hid hD
  have hz1 := hc1'.size
  rw [hD] at hz1
  clear hD
  have hbs1 := hbs.chg hc1' (fun _ _ _ h => h)
  obtain ⟨m, hm⟩ : ∃ m, W.length + n0 = m := ⟨_, rfl⟩
  have hm43 : m ≤ 42991936 := by omega
  have HM := Lib.hid hm
  clear hm
  go_wp2_with (at_builtin; refine wpList_append rfl _ _ 22 22 rfl 5 1 bytesApp o1 X1 W.length cap1 (bv W) (bv l0) _ rfl rfl hown1 (Src.slice hbs1) (bv_one l0) m ?_ (by omega) (by omega) ?_)
  · rw [bv_length, HLL.out, HM.out]
  intro oB XB capB w2 hownB hor hc2'
  rw [← bv_append] at hownB
  have hcw2 : Chg (fun _ => False) w w2 := hc1'.trans hc2' (fun i hi h => by have := hn1 i h; have := HD.out; omega)
  have hnB : ∀ g, oB = some g → D ≤ g := fun g hg => by
    rcases hor with h0 | h0
    · rw [h0] at hg; exact hn1 g hg
    · rw [h0] at hg; injection hg with hg; omega
  obtain ⟨B, hB⟩ : ∃ B, W ++ l0 = B := ⟨_, rfl⟩
  rw [hB] at hownB
  have hBl : B.length = m := by have := hownB.len; rwa [bv_length] at this
  have HBL := Lib.hid hBl
  have hltB := fun g h => hownB.lt (g := g) h
  have hz2 := hcw2.size
  have HHD := HD.out
  have hDz2 : D ≤ w2.heap.size := by omega
  clear hor hc2' hown1 hn1 hB hBl hz2 HHD hc1' hbs1
  go_wp2_with fail
  refine (Roomy_calls 165 hownB.cs (by omega)).mono ?_
  rintro e w3 ⟨g, rfl, hR3, hg3, hc3⟩
  have hz3 := hc3.size
  have hgl := hR3.lt rfl
  have hownB3 := hownB.chg hc3 (fun _ _ h => h)
  have hcw3 := hcw2.trans hc3 (fun _ _ h => h)
  have hf := hR3.cs
  have hft := hf.take (k := m) (by omega)
  rw [← bv_take, List.take_left' HBL.out] at hft
  clear hownB hcw2 hR3
  have hmc : (m : Int) ≤ (m : Int) + 80 := by omega
  go_wp2_with fail
  refine (NewReader_calls (fun k => w3.heap.size ≤ k) hft (by omega) (fun k hk => hk)).mono ?_
  rintro e w4 ⟨R, rfl, hR, r4, hc4⟩
  have hz4 := hc4.size
  have r4 := r4.mono (V' := fun k => w3.heap.size ≤ k ∧ k < w4.heap.size) fun k hk hv => ⟨hv, hk⟩
  have hRV := r4.inV
  have hownB4 := hownB3.chg hc4 (fun _ _ h => h)
  have hcw4 := hcw3.trans hc4 (fun _ _ h => h)
  have hf4 := hf.chg hc4 (fun _ _ _ h => h)
  have hfit := hownB4.fits
  have hcm := hownB4.capMax
  clear hownB3 hcw3 hf hft
  obtain ⟨Q, hQ⟩ : ∃ Q, w4.heap.size = Q := ⟨_, rfl⟩
  have HQQ := Lib.hid hQ
  have hal : Chg (fun _ => False) w4 (w4.alloc (.cells #[.slice XB m capB, .int .i64 0, .bool false, .int .i64 0, .int .i64 0] 50)) := (Chg.refl _ w4).alloc _
  have r5 : RrAt (fun k => k = Q ∨ (D ≤ k ∧ k < w2.heap.size)) (w4.alloc (.cells #[.slice XB m capB, .int .i64 0, .bool false, .int .i64 0, .int .i64 0] 50)) Q B ⟨0, 0, 0⟩ := by
    refine ⟨.inl rfl, Nat.zero_le _, by rw [HBL.out]; omega, XB, capB, ?_, ?_, by rw [HBL.out]; exact hfit, hcm⟩
    · rw [HBL.out, ← hQ]; exact heap_alloc_new w4 _
    · rw [HBL.out]; exact (hownB4.cs.chg hal (fun _ _ _ h => h)).mono fun k hk hs => ⟨.inr ⟨hnB k hs, hltB k hs⟩, by have := hltB k hs; omega⟩
  have r4a := r4.keep hal
  have hf5 := (hf4.chg hal (fun _ _ _ h => h))
  have hB5 := (hownB4.cs.chg hal (fun _ _ _ h => h)).mono (S' := fun k => D ≤ k ∧ k < w2.heap.size) fun k hk hs => ⟨hnB k hs, hltB k hs⟩
  have hcw5 : Chg (fun k => D ≤ k) w (w4.alloc (.cells #[.slice XB m capB, .int .i64 0, .bool false, .int .i64 0, .int .i64 0] 50)) := (hcw4.trans hal (fun _ _ h => h)).wide
  clear r4 hf4 hownB4 hcw4 hal
  have hz5 : w4.heap.size ≤ Q := by omega
  rw [hQ] at hRV r4a
  clear hQ hz4 hz5
  go_upto_block 0 with fail
  rw [HQQ.out]
  generalize w4.alloc (.cells #[.slice XB m capB, .int .i64 0, .bool false, .int .i64 0, .int .i64 0] 50) = w5 at r5 r4a hf5 hB5 hcw5 ⊢
  clear HQQ
  have hQR : ¬ R = Q := by omega
  go_cut [10] (fun v wx => ∃ s, RdAt (fun k => w3.heap.size ≤ k ∧ k < Q) wx R B s ∧ RrAt (fun k => k = Q ∨ (D ≤ k ∧ k < w2.heap.size)) wx Q B s ∧ Cs wx (fun k => some g = some k) (some ⟨g, 0, none⟩) (m + 80) (bv (B ++ List.replicate 80 165)) ∧ Cs wx (fun k => D ≤ k ∧ k < w2.heap.size) XB m (bv B) ∧ Chg (fun k => D ≤ k) w wx)
  case first =>
    go_wp2_with fail
    go_loopw [10] (fun i wr => ∃ (I : Nat) (s : RS), I ≤ n2 ∧ I ≤ 40 ∧ i = .int .i64 I ∧ RdAt (fun k => w3.heap.size ≤ k ∧ k < Q) wr R B s ∧ RrAt (fun k => k = Q ∨ (D ≤ k ∧ k < w2.heap.size)) wr Q B s ∧ Cs wr (fun k => some g = some k) (some ⟨g, 0, none⟩) (m + 80) (bv (B ++ List.replicate 80 165)) ∧ Cs wr (fun k => D ≤ k ∧ k < w2.heap.size) XB m (bv B) ∧ Chg (fun k => D ≤ k) w wr) (fun i _ => n2 - (intOf i).toNat)
    case atStart => exact ⟨0, ⟨0, 0, 0⟩, Nat.zero_le _, Nat.zero_le _, rfl, r4a, r5, hf5, hB5, hcw5⟩
    case round =>
      clear r4a r5 hf5 hB5 hcw5
      obtain ⟨I, s, hI1, hI2, rfl, hr, hr', hf, hB, hcw⟩ := hrel
      have kR : ∀ (wx wy : World), Chg (fun k => k = R) wx wy → RrAt (fun k => k = Q ∨ (D ≤ k ∧ k < w2.heap.size)) wx Q B s → RrAt (fun k => k = Q ∨ (D ≤ k ∧ k < w2.heap.size)) wy Q B s := fun _ _ hc h => h.chg hc (fun k hk h1 h2 => by omega)
      have kF : ∀ (T : Nat → Prop) (wx wy : World), Chg T wx wy → (∀ k, T k → k = R ∨ k = Q) → Cs wx (fun k => some g = some k) (some ⟨g, 0, none⟩) (m + 80) (bv (B ++ List.replicate 80 165)) → Cs wy (fun k => some g = some k) (some ⟨g, 0, none⟩) (m + 80) (bv (B ++ List.replicate 80 165)) := fun _ _ _ hc hT h => h.chg hc (fun k hk h1 h2 => by injection h1 with h1; have := hT k h2; omega)
      have kB : ∀ (T : Nat → Prop) (wx wy : World), Chg T wx wy → (∀ k, T k → k = R ∨ k = Q) → Cs wx (fun k => D ≤ k ∧ k < w2.heap.size) XB m (bv B) → Cs wy (fun k => D ≤ k ∧ k < w2.heap.size) XB m (bv B) := fun _ _ _ hc hT h => h.chg hc (fun k hk h1 h2 => by have := hT k h2; omega)
      have KR := Lib.hid kR
      have KF := Lib.hid kF
      have KB := Lib.hid kB
      clear kR kF kB
      by_cases hrun : I < n2 ∧ I < 40
      · obtain ⟨hlt, h40⟩ := hrun
        obtain ⟨b, off, rfl, hbw, hat⟩ := HQ2.out (by omega)
        obtain ⟨⟨q0, q1, q2', q3⟩, bk, bm, bd, bs⟩ := hat I hlt
        have hbD : ¬ D ≤ b := by have := HD.out; omega
        have hbR : ¬ b = R := by omega
        have hbQ : ¬ b = Q := by omega
        have q0 := hcw.cell q0 hbD
        have q1 := hcw.cell q1 hbD
        obtain ⟨k, hk⟩ : ∃ k, (q2 I).1 = k := ⟨_, rfl⟩
        obtain ⟨a, ha⟩ : ∃ a, (q2 I).2.1 = a := ⟨_, rfl⟩
        rw [hk] at q0
        rw [ha] at q1 bm
        clear hk ha bk bd bs hat q2' q3
        by_cases k1 : k = 1
        · subst k1
          go_wp2_with fail
          refine (RByte_calls hr).mono ?_
          rintro e w7 ⟨rfl, hr2a, hc7⟩
          go_wp2_with fail
          refine (RrByte_calls (KR.out _ _ hc7 hr')).mono ?_
          rintro e w8 ⟨rfl, hr3, hc8⟩
          have hr2 := hr2a.chg hc8 (fun k hk h1 h2 => by omega)
          clear hr2a
          generalize ((num (rtake B 1 s).1 : Nat) : Int) = y0
          have hy0 : (y0 == y0) = true := beq_self_eq_true _
          generalize (rtake B 1 s).2 = s2 at hr2 hr3
          have lf : Chg (fun k => k = R ∨ k = Q) wr w8 := ((hc7.mono (T' := fun k => k = R ∨ k = Q) (fun _ _ h => .inl h)).trans hc8 (fun _ _ h => .inr h))
          have hf2 := KF.out _ _ _ lf (fun _ h => h) hf
          have hB2 := KB.out _ _ _ lf (fun _ h => h) hB
          have hcw2 := hcw.trans lf (fun i _ h => by omega)
          go_wp2_with fail
          refine (Left_calls hr2).mono ?_
          rintro e w9 ⟨rfl, d9, rfl⟩
          have k9 : Chg (fun _ => False) w8 (w8.drewN d9) := (Chg.refl _ w8).drewN d9
          go_wp2_with fail
          refine (RrLeft_calls (hr3.keep k9)).mono ?_
          rintro e w10 ⟨rfl, d10, rfl⟩
          generalize rleft B s2 = y
          have hyy : (y != y) = false := by simp
          have k10 : Chg (fun _ => False) w8 (w8.drewN (d9 + d10)) := (Chg.refl _ w8).drewN (d9 + d10)
          go_wp2_with fail
          go_roundw
          case rel => exact ⟨I + 1, s2, by omega, by omega, by go_num, hr2.keep k10, hr3.keep k10, hf2.chg k10 (fun _ _ _ h => h), hB2.chg k10 (fun _ _ _ h => h), hcw2.trans k10 (fun _ _ h => h.elim)⟩
          case measure => simp [intOf]; omega
        have hk1 : (k == 1) = false := beq_eq_false_iff_ne.2 k1
        by_cases k2 : k = 2
        · subst k2
          go_wp2_with fail
          refine (RShort_calls hr).mono ?_
          rintro e w7 ⟨rfl, hr2a, hc7⟩
          go_wp2_with fail
          refine (RrShort_calls (KR.out _ _ hc7 hr')).mono ?_
          rintro e w8 ⟨rfl, hr3, hc8⟩
          have hr2 := hr2a.chg hc8 (fun k hk h1 h2 => by omega)
          clear hr2a
          generalize ((num (rtake B 2 s).1 : Nat) : Int) = y0
          have hy0 : (y0 == y0) = true := beq_self_eq_true _
          generalize (rtake B 2 s).2 = s2 at hr2 hr3
          have lf : Chg (fun k => k = R ∨ k = Q) wr w8 := ((hc7.mono (T' := fun k => k = R ∨ k = Q) (fun _ _ h => .inl h)).trans hc8 (fun _ _ h => .inr h))
          have hf2 := KF.out _ _ _ lf (fun _ h => h) hf
          have hB2 := KB.out _ _ _ lf (fun _ h => h) hB
          have hcw2 := hcw.trans lf (fun i _ h => by omega)
          go_wp2_with fail
          refine (Left_calls hr2).mono ?_
          rintro e w9 ⟨rfl, d9, rfl⟩
          have k9 : Chg (fun _ => False) w8 (w8.drewN d9) := (Chg.refl _ w8).drewN d9
          go_wp2_with fail
          refine (RrLeft_calls (hr3.keep k9)).mono ?_
          rintro e w10 ⟨rfl, d10, rfl⟩
          generalize rleft B s2 = y
          have hyy : (y != y) = false := by simp
          have k10 : Chg (fun _ => False) w8 (w8.drewN (d9 + d10)) := (Chg.refl _ w8).drewN (d9 + d10)
          go_wp2_with fail
          go_roundw
          case rel => exact ⟨I + 1, s2, by omega, by omega, by go_num, hr2.keep k10, hr3.keep k10, hf2.chg k10 (fun _ _ _ h => h), hB2.chg k10 (fun _ _ _ h => h), hcw2.trans k10 (fun _ _ h => h.elim)⟩
          case measure => simp [intOf]; omega
        have hk2 : (k == 2) = false := beq_eq_false_iff_ne.2 k2
        by_cases k3 : k = 3
        · subst k3
          go_wp2_with fail
          refine (RLong_calls hr).mono ?_
          rintro e w7 ⟨rfl, hr2a, hc7⟩
          go_wp2_with fail
          refine (RrLong_calls (KR.out _ _ hc7 hr')).mono ?_
          rintro e w8 ⟨rfl, hr3, hc8⟩
          have hr2 := hr2a.chg hc8 (fun k hk h1 h2 => by omega)
          clear hr2a
          generalize s64 (num (rtake B 8 s).1) = y0
          have hy0 : (y0 == y0) = true := beq_self_eq_true _
          generalize (rtake B 8 s).2 = s2 at hr2 hr3
          have lf : Chg (fun k => k = R ∨ k = Q) wr w8 := ((hc7.mono (T' := fun k => k = R ∨ k = Q) (fun _ _ h => .inl h)).trans hc8 (fun _ _ h => .inr h))
          have hf2 := KF.out _ _ _ lf (fun _ h => h) hf
          have hB2 := KB.out _ _ _ lf (fun _ h => h) hB
          have hcw2 := hcw.trans lf (fun i _ h => by omega)
          go_wp2_with fail
          refine (Left_calls hr2).mono ?_
          rintro e w9 ⟨rfl, d9, rfl⟩
          have k9 : Chg (fun _ => False) w8 (w8.drewN d9) := (Chg.refl _ w8).drewN d9
          go_wp2_with fail
          refine (RrLeft_calls (hr3.keep k9)).mono ?_
          rintro e w10 ⟨rfl, d10, rfl⟩
          generalize rleft B s2 = y
          have hyy : (y != y) = false := by simp
          have k10 : Chg (fun _ => False) w8 (w8.drewN (d9 + d10)) := (Chg.refl _ w8).drewN (d9 + d10)
          go_wp2_with fail
          go_roundw
          case rel => exact ⟨I + 1, s2, by omega, by omega, by go_num, hr2.keep k10, hr3.keep k10, hf2.chg k10 (fun _ _ _ h => h), hB2.chg k10 (fun _ _ _ h => h), hcw2.trans k10 (fun _ _ h => h.elim)⟩
          case measure => simp [intOf]; omega
        have hk3 : (k == 3) = false := beq_eq_false_iff_ne.2 k3
        by_cases k4 : k = 4
        · subst k4
          have q1d : wr.drew.cell? ⟨b, off + I * 4 + 1, none⟩ = some (.int .i64 a) := q1
          have hIn : (I : Int) < (n2 : Int) := by omega
          go_wp2_with fail
          refine wp_region_held_drew (S := fun wx => wx.cell? ⟨b, off + I * 4 + 1, none⟩ = some (.int .i64 a)) (by kernel_rfl) q1d (fun hHeld => ?_)
          refine take_at (i := 0) (some 70) (v := ?_) rfl rfl (by kernel_rfl) (by kernel_rfl) (by kernel_rfl) (fun _ _ _ h => h) (Or.inl ⟨by rfl, ?_⟩) (by assumption) ?_
          rotate_left
          · (intro wx hSw; go_simp; try (with_reducible rfl))
          try simp only [Act.put, List.setIfInBounds_toArray, List.set_cons_zero, List.set_cons_succ]
          refine take_at (i := 1) (some 71) (v := ?_) rfl rfl (by kernel_rfl) (by kernel_rfl) (by kernel_rfl) (fun _ _ _ h => h) (Or.inl ⟨by rfl, ?_⟩) (by assumption) ?_
          rotate_left
          · (intro wx hSw; go_simp; try (with_reducible rfl))
          try simp only [Act.put, List.setIfInBounds_toArray, List.set_cons_zero, List.set_cons_succ]
          refine take_at (i := 2) (some 72) (v := ?_) rfl rfl (by kernel_rfl) (by kernel_rfl) (by kernel_rfl) (fun _ _ _ h => h) (Or.inl ⟨by rfl, ?_⟩) (by assumption) ?_
          rotate_left
          · (intro wx hSw; go_simp; try (with_reducible rfl))
          try simp only [Act.put, List.setIfInBounds_toArray, List.set_cons_zero, List.set_cons_succ]
          refine take_at (i := 3) (some 73) (v := ?_) rfl rfl (by kernel_rfl) (by kernel_rfl) (by kernel_rfl) (fun _ _ _ h => h) (Or.inl ⟨by rfl, ?_⟩) (by assumption) ?_
          rotate_left
          · (intro wx hSw; go_simp; try (with_reducible rfl))
          try simp only [Act.put, List.setIfInBounds_toArray, List.set_cons_zero, List.set_cons_succ]
          refine take_at (i := 4) (some 74) (v := ?_) rfl rfl (by kernel_rfl) (by kernel_rfl) (by kernel_rfl) (fun _ _ _ h => h) (Or.inl ⟨by rfl, ?_⟩) (by assumption) ?_
          rotate_left
          · (intro wx hSw; go_simp; try (with_reducible rfl))
          try simp only [Act.put, List.setIfInBounds_toArray, List.set_cons_zero, List.set_cons_succ]
          refine take_at (i := 5) (some 75) (v := ?_) rfl rfl (by kernel_rfl) (by kernel_rfl) (by kernel_rfl) (fun _ _ _ h => h) (Or.inl ⟨by rfl, ?_⟩) (by assumption) ?_
          rotate_left
          · (intro wx hSw; go_simp; try (with_reducible rfl))
          try simp only [Act.put, List.setIfInBounds_toArray, List.set_cons_zero, List.set_cons_succ]
          refine take_at (i := 7) (some 77) (v := ?_) rfl rfl (by kernel_rfl) (by kernel_rfl) (by kernel_rfl) (fun _ _ _ h => h) (Or.inl ⟨by rfl, ?_⟩) (by assumption) ?_
          rotate_left
          · (intro wx hSw; go_simp; try (with_reducible rfl))
          try simp only [Act.put, List.setIfInBounds_toArray, List.set_cons_zero, List.set_cons_succ]
          refine take_at (i := 8) (some 78) (v := ?_) rfl rfl (by kernel_rfl) (by kernel_rfl) (by kernel_rfl) (fun _ _ _ h => h) (Or.inl ⟨by rfl, ?_⟩) (by assumption) ?_
          rotate_left
          · (intro wx hSw; go_simp; try (with_reducible rfl))
          try simp only [Act.put, List.setIfInBounds_toArray, List.set_cons_zero, List.set_cons_succ]
          refine take_at (i := 9) (some 79) (v := ?_) rfl rfl (by kernel_rfl) (by kernel_rfl) (by kernel_rfl) (fun _ _ _ h => h) (Or.inl ⟨by rfl, ?_⟩) (by assumption) ?_
          rotate_left
          · (intro wx hSw; go_simp; try (with_reducible rfl))
          try simp only [Act.put, List.setIfInBounds_toArray, List.set_cons_zero, List.set_cons_succ]
          refine take_at (i := 10) (some 80) (v := ?_) rfl rfl (by kernel_rfl) (by kernel_rfl) (by kernel_rfl) (fun _ _ _ h => h) (Or.inl ⟨by rfl, ?_⟩) (by assumption) ?_
          rotate_left
          · (intro wx hSw; go_simp; try (with_reducible rfl))
          try simp only [Act.put, List.setIfInBounds_toArray, List.set_cons_zero, List.set_cons_succ]
          refine take_at (i := 11) (some 81) (v := ?_) rfl rfl (by kernel_rfl) (by kernel_rfl) (by kernel_rfl) (fun _ _ _ h => h) (Or.inl ⟨by rfl, ?_⟩) (by assumption) ?_
          rotate_left
          · (intro wx hSw; go_simp; try (with_reducible rfl))
          try simp only [Act.put, List.setIfInBounds_toArray, List.set_cons_zero, List.set_cons_succ]
          refine take_at (i := 12) (some 82) (v := ?_) rfl rfl (by kernel_rfl) (by kernel_rfl) (by kernel_rfl) (fun _ _ _ h => h) (Or.inl ⟨by rfl, ?_⟩) (by assumption) ?_
          rotate_left
          · (intro wx hSw; go_simp; try (with_reducible rfl))
          try simp only [Act.put, List.setIfInBounds_toArray, List.set_cons_zero, List.set_cons_succ]
          refine wpAnyH_ready (rs := [6]) (by kernel_rfl) (by simp) ?_
          refine AllReadyH.cons rfl (fun K hK => ?_) AllReadyH.nil
          go_simp
          refine (RText_calls (hr.keep ((Chg.refl _ wr).drew)) a).mono ?_
          rintro e w7 ⟨rfl, hr2a, hc7⟩
          have q17 := hc7.cell q1d hbR
          go_wp2_with fail
          refine hK.out _ _ ?_ (fun hHeld => ?_)
          · (assumption)
          clear hK K
          try simp only [Act.put, List.setIfInBounds_toArray, List.set_cons_zero, List.set_cons_succ]
          refine wpAnyH_ready (rs := [13]) (by kernel_rfl) (by simp) ?_
          refine AllReadyH.cons rfl (fun K hK => ?_) AllReadyH.nil
          go_simp
          refine (RrText_calls (KR.out _ _ hc7 (hr'.keep ((Chg.refl _ wr).drew))) a).mono ?_
          rintro e w8 ⟨rfl, hr3, hc8⟩
          have q18 := hc8.cell q17 hbQ
          go_wp2_with fail
          refine hK.out _ _ ?_ (fun hHeld => ?_)
          · (assumption)
          clear hK K
          try simp only [Act.put, List.setIfInBounds_toArray, List.set_cons_zero, List.set_cons_succ]
          refine take_at (i := 14) (some 84) (v := ?_) rfl rfl (by kernel_rfl) (by kernel_rfl) (by kernel_rfl) (fun _ _ _ h => h) (Or.inl ⟨by rfl, ?_⟩) (by assumption) ?_
          rotate_left
          · (intro wx hSw; go_simp; try (with_reducible rfl))
          try simp only [Act.put, List.setIfInBounds_toArray, List.set_cons_zero, List.set_cons_succ]
          refine take_at (i := 15) (some 11) (v := ?_) rfl rfl (by kernel_rfl) (by kernel_rfl) (by kernel_rfl) (fun _ _ _ h => h) (Or.inl ⟨by rfl, ?_⟩) (by assumption) ?_
          rotate_left
          · (intro wx hSw; go_simp; try (with_reducible rfl))
          try simp only [Act.put, List.setIfInBounds_toArray, List.set_cons_zero, List.set_cons_succ]
          refine wpAnyH_done (by kernel_rfl) ?_ _
          have hr2 := hr2a.chg hc8 (fun k hk h1 h2 => by omega)
          clear hr2a
          generalize (rtext B a s).2 = s2 at hr2 hr3
          have lf : Chg (fun k => k = R ∨ k = Q) wr w8 := (((Chg.refl (fun k => k = R ∨ k = Q) wr).drew.trans hc7 (fun _ _ h => .inl h)).trans hc8 (fun _ _ h => .inr h))
          have hf2 := KF.out _ _ _ lf (fun _ h => h) hf
          have hB2 := KB.out _ _ _ lf (fun _ h => h) hB
          have hcw2 := hcw.trans lf (fun i _ h => by omega)
          go_wp2_with fail
          refine (Left_calls hr2).mono ?_
          rintro e w9 ⟨rfl, d9, rfl⟩
          have k9 : Chg (fun _ => False) w8 (w8.drewN d9) := (Chg.refl _ w8).drewN d9
          go_wp2_with fail
          refine (RrLeft_calls (hr3.keep k9)).mono ?_
          rintro e w10 ⟨rfl, d10, rfl⟩
          generalize rleft B s2 = y
          have hyy : (y != y) = false := by simp
          have k10 : Chg (fun _ => False) w8 (w8.drewN (d9 + d10)) := (Chg.refl _ w8).drewN (d9 + d10)
          go_wp2_with fail
          go_roundw
          case rel => exact ⟨I + 1, s2, by omega, by omega, by go_num, hr2.keep k10, hr3.keep k10, hf2.chg k10 (fun _ _ _ h => h), hB2.chg k10 (fun _ _ _ h => h), hcw2.trans k10 (fun _ _ h => h.elim)⟩
          case measure => simp [intOf]; omega
        have hk4 : (k == 4) = false := beq_eq_false_iff_ne.2 k4
        by_cases k5 : k = 5
        · subst k5
          go_wp2_with fail
          refine (Fail_calls hr a).mono ?_
          rintro e w7 ⟨rfl, hr2a, hc7⟩
          have q1 := hc7.cell q1 hbR
          go_wp2_with fail
          refine (RrFail_calls (KR.out _ _ hc7 hr') a).mono ?_
          rintro e w8 ⟨rfl, hr3, hc8⟩
          have hr2 := hr2a.chg hc8 (fun k hk h1 h2 => by omega)
          clear hr2a
          generalize rfail a s = s2 at hr2 hr3
          have lf : Chg (fun k => k = R ∨ k = Q) wr w8 := ((hc7.mono (T' := fun k => k = R ∨ k = Q) (fun _ _ h => .inl h)).trans hc8 (fun _ _ h => .inr h))
          have hf2 := KF.out _ _ _ lf (fun _ h => h) hf
          have hB2 := KB.out _ _ _ lf (fun _ h => h) hB
          have hcw2 := hcw.trans lf (fun i _ h => by omega)
          go_wp2_with fail
          refine (Left_calls hr2).mono ?_
          rintro e w9 ⟨rfl, d9, rfl⟩
          have k9 : Chg (fun _ => False) w8 (w8.drewN d9) := (Chg.refl _ w8).drewN d9
          go_wp2_with fail
          refine (RrLeft_calls (hr3.keep k9)).mono ?_
          rintro e w10 ⟨rfl, d10, rfl⟩
          generalize rleft B s2 = y
          have hyy : (y != y) = false := by simp
          have k10 : Chg (fun _ => False) w8 (w8.drewN (d9 + d10)) := (Chg.refl _ w8).drewN (d9 + d10)
          go_wp2_with fail
          go_roundw
          case rel => exact ⟨I + 1, s2, by omega, by omega, by go_num, hr2.keep k10, hr3.keep k10, hf2.chg k10 (fun _ _ _ h => h), hB2.chg k10 (fun _ _ _ h => h), hcw2.trans k10 (fun _ _ h => h.elim)⟩
          case measure => simp [intOf]; omega
        have hk5 : (k == 5) = false := beq_eq_false_iff_ne.2 k5
        have hr2 := hr
        have hr3 := hr'
        obtain ⟨w8, hw8⟩ : ∃ x : World, x = wr := ⟨_, rfl⟩
        subst hw8
        go_wp2_with fail
        refine (Left_calls hr2).mono ?_
        rintro e w9 ⟨rfl, d9, rfl⟩
        have k9 : Chg (fun _ => False) w8 (w8.drewN d9) := (Chg.refl _ w8).drewN d9
        go_wp2_with fail
        refine (RrLeft_calls (hr3.keep k9)).mono ?_
        rintro e w10 ⟨rfl, d10, rfl⟩
        generalize rleft B s = y
        have hyy : (y != y) = false := by simp
        have k10 : Chg (fun _ => False) w8 (w8.drewN (d9 + d10)) := (Chg.refl _ w8).drewN (d9 + d10)
        go_wp2_with fail
        go_roundw
        case rel => exact ⟨I + 1, s, Nat.succ_le_of_lt hlt, Nat.succ_le_of_lt h40, by go_num, hr2.keep k10, hr3.keep k10, hf.chg k10 (fun _ _ _ h => h), hB.chg k10 (fun _ _ _ h => h), hcw.trans k10 (fun _ _ h => h.elim)⟩
        case measure => simp [intOf]; omega
      · have hcase : ¬ I < n2 ∨ (I < n2 ∧ ¬ I < 40) := by omega
        rcases hcase with hIn | ⟨hIn, hI40⟩
        all_goals
          go_wp2_with fail
          go_meet
          exact ⟨s, hr, hr', hf, hB, hcw⟩
  case rest =>
    obtain ⟨s, hr, hr', hf, hB, hcw⟩ := hcut
    clear r4a r5 hf5 hB5 hcw5
    obtain ⟨wp, rfl⟩ : ∃ x : World, x = wc := ⟨_, rfl⟩
    go_wp2_with fail
    refine (End_calls hr).mono ?_
    rintro e w6 ⟨rfl, d6, rfl⟩
    have k6 : Chg (fun _ => False) wp (wp.drewN d6) := (Chg.refl _ wp).drewN d6
    go_wp2_with fail
    refine (RrEnd_calls (hr'.keep k6)).mono ?_
    rintro e w7 ⟨rfl, d7, rfl⟩
    generalize rwhy B s = y
    generalize rwhere B s = z
    have k7 : Chg (fun _ => False) wp ((wp.drewN d6).drewN d7) := k6.drewN d7
    have hyy : (y == y) = true := beq_self_eq_true _
    have hzz : (z == z) = true := beq_self_eq_true _
    have hfx := hf.chg k7 (fun _ _ _ h => h)
    have hBx := hB.chg k7 (fun _ _ _ h => h)
    have hcwx := hcw.trans k7 (fun _ _ h => h.elim)
    go_wp2_with fail
    refine (Intact_calls 165 (hf.chg ((Chg.refl (fun _ => False) wp).drewN (d6 + d7)) (fun _ _ _ h => h)) (hB.chg ((Chg.refl (fun _ => False) wp).drewN (d6 + d7)) (fun _ _ _ h => h)) (by omega) (by omega)).mono ?_
    rintro e w8 ⟨rfl, d8, rfl⟩
    go_wp2_with fail
    refine (known1 _).mono ?_
    rintro e w9 ⟨rfl, hc9⟩
    go_wp2_with fail
    go_ret
    have a9 : Chg (fun k => D ≤ k) w w9 := (hcw.drewN (d6 + d7 + d8)).trans hc9 (fun _ _ h => h.elim)
    exact ⟨rfl, a9.new fun k hk h => by have := HD.out; omega⟩
end Go.Proofs.Ytiibkbkcncmjoaa
