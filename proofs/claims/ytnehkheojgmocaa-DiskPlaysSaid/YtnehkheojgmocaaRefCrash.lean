/-
  Contract of the document's disk (confluenceref20): Crash.
-/
import Derived.Test.YtnehkheojgmocaaRefDisk
import Derived.Test.YtnehkheojgmocaaRegion
import Derived.Test.YtnehkheojgmocaaNarrow
namespace Go.Proofs.Ytnehkheojgmocaa
open Go.RowKit
set_option linter.unusedVariables false
set_option linter.unusedSimpArgs false

set_option maxHeartbeats 1000000 in
theorem RefCrash_calls {w : World} {D : Nat} {own : Option Nat} {bs : List UInt8} {safe : Nat} (keep : Int) (hd : RefAt w D own bs safe) :
    Calls Try.prog 31 #[.pointer (some ⟨D, 0, none⟩), .int .i64 keep] w (RefMade w D (bs.take (kept bs.length safe keep)) (kept bs.length safe keep) (.tuple #[])) := by
  have hd0 := hd
  obtain ⟨h1, h2, A, cap, hh, ho⟩ := hd
  obtain ⟨c0, c1, f0, f1⟩ := two_cells hh
  go_enter Try.func31, Try.ntmps31
  go_upto_if 5 with fail
  go_cut [1] (fun s wx => ∃ m : Int, s = .int .i64 m ∧ m = max keep 0 ∧ w = wx)
  case first =>
    by_cases h : keep < 0
    all_goals
      go_wp2_with fail
      go_meet
    · exact ⟨0, rfl, by omega, rfl⟩
    · exact ⟨keep, rfl, by omega, rfl⟩
  case rest =>
    obtain ⟨m, rfl, hm, rfl⟩ := hcut
    go_wp2_with fail
    go_region
    have hw := IntWalk.i64_in ((bs.length : Int) - (safe : Int)) (by omega)
    go_upto_if 17 with fail
    go_cut [1] (fun s wx => ∃ kk : Nat, s = .int .i64 (kk : Int) ∧ kept bs.length safe keep = safe + kk ∧ safe + kk ≤ bs.length ∧ RefAt wx D own bs safe ∧ Chg (fun _ => False) w wx)
    case first =>
      have q1 : Chg (fun _ => False) w w.drew := (Chg.refl _ w).drew
      have q2 : Chg (fun _ => False) w w.drew.drew := (Chg.refl _ w).drew.drew
      by_cases h : (bs.length : Int) - (safe : Int) < m
      · go_wp2_with fail
        go_region
        go_wp2_with fail
        go_meet
        exact ⟨bs.length - safe, by congr 1; omega, by unfold kept; omega, by omega, hd0.chg (by assumption) (fun h => h) (fun _ _ h => h), by assumption⟩
      · go_wp2_with fail
        go_meet
        exact ⟨m.toNat, by congr 1; omega, by unfold kept; omega, by omega, hd0.chg (by assumption) (fun h => h) (fun _ _ h => h), by assumption⟩
    case rest =>
      obtain ⟨kk, rfl, hK, hKl, hd2, hcw⟩ := hcut
      have HK := Lib.hid hK
      clear hK hm hh ho c0 c1 f0 f1 hd0
      obtain ⟨-, h2', A2, cap2, hh, ho⟩ := hd2
      obtain ⟨c0, c1, f0, f1⟩ := two_cells hh
      have hal : Chg (fun _ => False) wc (wc.alloc (.cells #[] 5)) := (Chg.refl (fun _ => False) wc).alloc _
      obtain ⟨a0, a1, -, -⟩ := two_cells (hal.heap hh (fun h => h))
      have hcap := ho.fits
      have hcm := ho.capMax
      have htk := ho.cs.take (k := safe + kk) hKl
      rw [← bv_take] at htk
      have hsum := IntWalk.i64_in ((safe : Int) + (kk : Int)) (by omega)
      have hle1 : (safe : Int) + (kk : Int) ≤ (cap2 : Int) := by omega
      have hle0 : (0 : Int) ≤ (safe : Int) + (kk : Int) := by omega
      have hton : ((safe : Int) + (kk : Int)).toNat = safe + kk := by omega
      have hlt : (bs.take (safe + kk)).length = safe + kk := by rw [List.length_take]; omega
      have HL := Lib.hid hlt
      clear hlt
      have hocD : Cs ((wc.alloc (.cells #[] 5)).drew) (fun k => own = some k) A2 (safe + kk) (bv (bs.take (safe + kk))) := htk.chg (((Chg.refl (fun _ => False) wc).alloc _).drew) (fun _ _ _ hf => hf)
      have hocE : Cs ((wc.drew).alloc (.cells #[] 5)) (fun k => own = some k) A2 (safe + kk) (bv (bs.take (safe + kk))) := htk.chg (((Chg.refl (fun _ => False) wc).drew).alloc _) (fun _ _ _ hf => hf)
      obtain ⟨d0, d1, -, -⟩ := two_cells ((((Chg.refl (fun _ => False) wc).alloc (.cells #[] 5)).drew).heap hh (fun h => h))
      go_wp2_with fail
      refine wp_region_held_drew (S := fun _ => True) (by kernel_rfl) trivial (fun hHeld => ?_)
      refine take_at (i := 0) (some 28) (v := ?_) rfl rfl (by kernel_rfl) (by kernel_rfl) (by kernel_rfl) (fun _ _ _ h => h) (Or.inl ⟨by rfl, ?_⟩) (by assumption) ?_
      rotate_left
      · (intro wx hSw; go_simp; try (with_reducible rfl))
      try simp only [Act.put, List.setIfInBounds_toArray, List.set_cons_zero, List.set_cons_succ]
      refine take_at (i := 2) (some 30) (v := ?_) rfl rfl (by kernel_rfl) (by kernel_rfl) (by kernel_rfl) (fun _ _ _ h => h) (Or.inl ⟨by rfl, ?_⟩) (by assumption) ?_
      rotate_left
      · (intro wx hSw; go_simp; try (with_reducible rfl))
      try simp only [Act.put, List.setIfInBounds_toArray, List.set_cons_zero, List.set_cons_succ]
      refine take_at (i := 3) (some 31) (v := ?_) rfl rfl (by kernel_rfl) (by kernel_rfl) (by kernel_rfl) (fun _ _ _ h => h) (Or.inl ⟨by rfl, ?_⟩) (by assumption) ?_
      rotate_left
      · (intro wx hSw; go_simp; try (with_reducible rfl))
      try simp only [Act.put, List.setIfInBounds_toArray, List.set_cons_zero, List.set_cons_succ]
      refine take_at (i := 4) (some 32) (v := ?_) rfl rfl (by kernel_rfl) (by kernel_rfl) (by kernel_rfl) (fun _ _ _ h => h) (Or.inl ⟨by rfl, ?_⟩) (by assumption) ?_
      rotate_left
      · (intro wx hSw; go_simp; try (with_reducible rfl))
      try simp only [Act.put, List.setIfInBounds_toArray, List.set_cons_zero, List.set_cons_succ]
      refine take_at (i := 6) (some 34) (v := ?_) rfl rfl (by kernel_rfl) (by kernel_rfl) (by kernel_rfl) (fun _ _ _ h => h) (Or.inl ⟨by rfl, ?_⟩) (by assumption) ?_
      rotate_left
      · (intro wx hSw; go_simp; try (with_reducible rfl))
      try simp only [Act.put, List.setIfInBounds_toArray, List.set_cons_zero, List.set_cons_succ]
      refine take_at (i := 7) (some 35) (v := ?_) rfl rfl (by kernel_rfl) (by kernel_rfl) (by kernel_rfl) (fun _ _ _ h => h) (Or.inl ⟨by rfl, ?_⟩) (by assumption) ?_
      rotate_left
      · (intro wx hSw; go_simp; try (with_reducible rfl))
      try simp only [Act.put, List.setIfInBounds_toArray, List.set_cons_zero, List.set_cons_succ]
      refine take_at (i := 8) (some 36) (v := ?_) rfl rfl (by kernel_rfl) (by kernel_rfl) (by kernel_rfl) (fun _ _ _ h => h) (Or.inl ⟨by rfl, ?_⟩) (by assumption) ?_
      rotate_left
      · (intro wx hSw; go_simp; try (with_reducible rfl))
      try simp only [Act.put, List.setIfInBounds_toArray, List.set_cons_zero, List.set_cons_succ]
      refine take_at (i := 10) (some 38) (v := ?_) rfl rfl (by kernel_rfl) (by kernel_rfl) (by kernel_rfl) (fun _ _ _ h => h) (Or.inl ⟨by rfl, ?_⟩) (by assumption) ?_
      rotate_left
      · (intro wx hSw; go_simp; try (with_reducible rfl))
      try simp only [Act.put, List.setIfInBounds_toArray, List.set_cons_zero, List.set_cons_succ]
      refine wpAnyH_ready (rs := [1, 5, 9]) (by kernel_rfl) (by simp) ?_
      refine AllReadyH.cons rfl (fun K hK => ?_) ?_
      · skip
        go_simp
        refine hK.out _ _ ?_ (fun hHeld => ?_)
        · (trivial)
        clear hK K
        try simp only [Act.put, List.setIfInBounds_toArray, List.set_cons_zero, List.set_cons_succ]
        refine wpAnyH_ready (rs := [5, 9]) (by kernel_rfl) (by simp) ?_
        refine AllReadyH.cons rfl (fun K hK => ?_) ?_
        · skip
          go_simp
          refine hK.out _ _ ?_ (fun hHeld => ?_)
          · (trivial)
          clear hK K
          try simp only [Act.put, List.setIfInBounds_toArray, List.set_cons_zero, List.set_cons_succ]
          refine wpAnyH_ready (rs := [9]) (by kernel_rfl) (by simp) ?_
          refine AllReadyH.cons rfl (fun K hK => ?_) AllReadyH.nil
          go_simp
          refine hK.out _ _ ?_ (fun hHeld => ?_)
          · (trivial)
          clear hK K
          try simp only [Act.put, List.setIfInBounds_toArray, List.set_cons_zero, List.set_cons_succ]
          refine take_at (i := 11) (some 39) (v := ?_) rfl rfl (by kernel_rfl) (by kernel_rfl) (by kernel_rfl) (fun _ _ _ h => h) (Or.inl ⟨by rfl, ?_⟩) (by assumption) ?_
          rotate_left
          · (intro wx hSw; go_simp; try (with_reducible rfl))
          try simp only [Act.put, List.setIfInBounds_toArray, List.set_cons_zero, List.set_cons_succ]
          refine take_at (i := 12) (some 40) (v := ?_) rfl rfl (by kernel_rfl) (by kernel_rfl) (by kernel_rfl) (fun _ _ _ h => h) (Or.inl ⟨by rfl, ?_⟩) (by assumption) ?_
          rotate_left
          · (intro wx hSw; go_simp; try (with_reducible rfl))
          try simp only [Act.put, List.setIfInBounds_toArray, List.set_cons_zero, List.set_cons_succ]
          refine wpAnyH_ready (rs := [13]) (by kernel_rfl) (by simp) ?_
          refine AllReadyH.cons rfl (fun K hK => ?_) AllReadyH.nil
          refine step_append rfl _ _ 26 26 rfl 5 1 bytesApp none _ 0 0 [] (bv (bs.take (safe + kk))) _ rfl rfl (Own.nil_ _ _ _) (Src.slice (S := fun k => own = some k) (by first | exact hocD | exact hocE)) (bv_one _) (safe + kk) (by rw [bv_length, HL.out]; omega) (by omega) (by omega) ?_
          intro o1 A1 cap1 w1 hown1 hor1 hc1
          have hc01 : Chg (fun _ => False) wc w1 := Chg.trans (by first | exact (Chg.refl (fun _ => False) wc).drew.alloc _ | exact ((Chg.refl (fun _ => False) wc).alloc _).drew) hc1 (fun i hi hf => by cases hf)
          have hn1 : ∀ g, o1 = some g → w.heap.size ≤ g := fun g hg => by
            have := hcw.size
            rcases hor1 with h0 | h0
            · rw [h0] at hg; cases hg
            · rw [h0] at hg; simp at hg; omega
          have hh' := hc01.heap hh (fun h => h)
          obtain ⟨c0', c1', f0', f1'⟩ := two_cells hh'
          have hne' : o1 ≠ some D := hown1.ne_ hh' (by decide)
          have hs := two_set1 (two_set0 hh' (.slice A1 (safe + kk) cap1)) (.int .i64 ((safe : Int) + (kk : Int)))
          clear c0 c1 f0 f1 a0 a1 d0 d1
          refine hK.out _ _ ?_ (fun hHeld => ?_)
          · (trivial)
          clear hK K
          try simp only [Act.put, List.setIfInBounds_toArray, List.set_cons_zero, List.set_cons_succ]
          refine take_at (i := 14) (some 42) (v := ?_) rfl rfl (by kernel_rfl) (by kernel_rfl) (by kernel_rfl) (fun _ _ _ h => h) (Or.inl ⟨by rfl, ?_⟩) (by assumption) ?_
          rotate_left
          · (intro wx hSw; go_simp; try (with_reducible rfl))
          try simp only [Act.put, List.setIfInBounds_toArray, List.set_cons_zero, List.set_cons_succ]
          refine take_at (i := 15) (some 43) (v := ?_) rfl rfl (by kernel_rfl) (by kernel_rfl) (by kernel_rfl) (fun _ _ _ h => h) (Or.inl ⟨by rfl, ?_⟩) (by assumption) ?_
          rotate_left
          · (intro wx hSw; go_simp; try (with_reducible rfl))
          try simp only [Act.put, List.setIfInBounds_toArray, List.set_cons_zero, List.set_cons_succ]
          refine wpAnyH_ready (rs := [16]) (by kernel_rfl) (by simp) ?_
          refine AllReadyH.cons rfl (fun K hK => ?_) AllReadyH.nil
          go_simp
          refine hK.out _ _ ?_ (fun hHeld => ?_)
          · (trivial)
          clear hK K
          try simp only [Act.put, List.setIfInBounds_toArray, List.set_cons_zero, List.set_cons_succ]
          refine wpAnyH_done (by kernel_rfl) ?_ _
          go_wp2_with fail
          go_end0
          rw [HK.out]
          refine ⟨o1, rfl, ⟨by rw [HL.out]; exact Nat.le_refl _, by rw [HL.out]; omega, A1, cap1, ?_, ?_⟩, hn1, ?_⟩
          · rw [HL.out]; simpa using hs
          · rw [HL.out]; exact (hown1.setOther hne' _).setOther hne' _
          · exact (Chg.setIn (Chg.mono (T' := fun k => k = D) (hcw.trans hc01 (fun _ _ h => h)) (fun i _ h => h.elim)) rfl _ _).setIn rfl _ _
        refine AllReadyH.cons rfl (fun K hK => ?_) ?_
        · skip
          go_simp
          refine hK.out _ _ ?_ (fun hHeld => ?_)
          · (trivial)
          clear hK K
          try simp only [Act.put, List.setIfInBounds_toArray, List.set_cons_zero, List.set_cons_succ]
          refine take_at (i := 11) (some 39) (v := ?_) rfl rfl (by kernel_rfl) (by kernel_rfl) (by kernel_rfl) (fun _ _ _ h => h) (Or.inl ⟨by rfl, ?_⟩) (by assumption) ?_
          rotate_left
          · (intro wx hSw; go_simp; try (with_reducible rfl))
          try simp only [Act.put, List.setIfInBounds_toArray, List.set_cons_zero, List.set_cons_succ]
          refine wpAnyH_ready (rs := [5]) (by kernel_rfl) (by simp) ?_
          refine AllReadyH.cons rfl (fun K hK => ?_) AllReadyH.nil
          go_simp
          refine hK.out _ _ ?_ (fun hHeld => ?_)
          · (trivial)
          clear hK K
          try simp only [Act.put, List.setIfInBounds_toArray, List.set_cons_zero, List.set_cons_succ]
          refine take_at (i := 12) (some 40) (v := ?_) rfl rfl (by kernel_rfl) (by kernel_rfl) (by kernel_rfl) (fun _ _ _ h => h) (Or.inl ⟨by rfl, ?_⟩) (by assumption) ?_
          rotate_left
          · (intro wx hSw; go_simp; try (with_reducible rfl))
          try simp only [Act.put, List.setIfInBounds_toArray, List.set_cons_zero, List.set_cons_succ]
          refine wpAnyH_ready (rs := [13]) (by kernel_rfl) (by simp) ?_
          refine AllReadyH.cons rfl (fun K hK => ?_) AllReadyH.nil
          refine step_append rfl _ _ 26 26 rfl 5 1 bytesApp none _ 0 0 [] (bv (bs.take (safe + kk))) _ rfl rfl (Own.nil_ _ _ _) (Src.slice (S := fun k => own = some k) (by first | exact hocD | exact hocE)) (bv_one _) (safe + kk) (by rw [bv_length, HL.out]; omega) (by omega) (by omega) ?_
          intro o1 A1 cap1 w1 hown1 hor1 hc1
          have hc01 : Chg (fun _ => False) wc w1 := Chg.trans (by first | exact (Chg.refl (fun _ => False) wc).drew.alloc _ | exact ((Chg.refl (fun _ => False) wc).alloc _).drew) hc1 (fun i hi hf => by cases hf)
          have hn1 : ∀ g, o1 = some g → w.heap.size ≤ g := fun g hg => by
            have := hcw.size
            rcases hor1 with h0 | h0
            · rw [h0] at hg; cases hg
            · rw [h0] at hg; simp at hg; omega
          have hh' := hc01.heap hh (fun h => h)
          obtain ⟨c0', c1', f0', f1'⟩ := two_cells hh'
          have hne' : o1 ≠ some D := hown1.ne_ hh' (by decide)
          have hs := two_set1 (two_set0 hh' (.slice A1 (safe + kk) cap1)) (.int .i64 ((safe : Int) + (kk : Int)))
          clear c0 c1 f0 f1 a0 a1 d0 d1
          refine hK.out _ _ ?_ (fun hHeld => ?_)
          · (trivial)
          clear hK K
          try simp only [Act.put, List.setIfInBounds_toArray, List.set_cons_zero, List.set_cons_succ]
          refine take_at (i := 14) (some 42) (v := ?_) rfl rfl (by kernel_rfl) (by kernel_rfl) (by kernel_rfl) (fun _ _ _ h => h) (Or.inl ⟨by rfl, ?_⟩) (by assumption) ?_
          rotate_left
          · (intro wx hSw; go_simp; try (with_reducible rfl))
          try simp only [Act.put, List.setIfInBounds_toArray, List.set_cons_zero, List.set_cons_succ]
          refine take_at (i := 15) (some 43) (v := ?_) rfl rfl (by kernel_rfl) (by kernel_rfl) (by kernel_rfl) (fun _ _ _ h => h) (Or.inl ⟨by rfl, ?_⟩) (by assumption) ?_
          rotate_left
          · (intro wx hSw; go_simp; try (with_reducible rfl))
          try simp only [Act.put, List.setIfInBounds_toArray, List.set_cons_zero, List.set_cons_succ]
          refine wpAnyH_ready (rs := [16]) (by kernel_rfl) (by simp) ?_
          refine AllReadyH.cons rfl (fun K hK => ?_) AllReadyH.nil
          go_simp
          refine hK.out _ _ ?_ (fun hHeld => ?_)
          · (trivial)
          clear hK K
          try simp only [Act.put, List.setIfInBounds_toArray, List.set_cons_zero, List.set_cons_succ]
          refine wpAnyH_done (by kernel_rfl) ?_ _
          go_wp2_with fail
          go_end0
          rw [HK.out]
          refine ⟨o1, rfl, ⟨by rw [HL.out]; exact Nat.le_refl _, by rw [HL.out]; omega, A1, cap1, ?_, ?_⟩, hn1, ?_⟩
          · rw [HL.out]; simpa using hs
          · rw [HL.out]; exact (hown1.setOther hne' _).setOther hne' _
          · exact (Chg.setIn (Chg.mono (T' := fun k => k = D) (hcw.trans hc01 (fun _ _ h => h)) (fun i _ h => h.elim)) rfl _ _).setIn rfl _ _
        exact AllReadyH.nil
      refine AllReadyH.cons rfl (fun K hK => ?_) ?_
      · skip
        go_simp
        refine hK.out _ _ ?_ (fun hHeld => ?_)
        · (trivial)
        clear hK K
        try simp only [Act.put, List.setIfInBounds_toArray, List.set_cons_zero, List.set_cons_succ]
        refine wpAnyH_ready (rs := [1, 9]) (by kernel_rfl) (by simp) ?_
        refine AllReadyH.cons rfl (fun K hK => ?_) ?_
        · skip
          go_simp
          refine hK.out _ _ ?_ (fun hHeld => ?_)
          · (trivial)
          clear hK K
          try simp only [Act.put, List.setIfInBounds_toArray, List.set_cons_zero, List.set_cons_succ]
          refine wpAnyH_ready (rs := [9]) (by kernel_rfl) (by simp) ?_
          refine AllReadyH.cons rfl (fun K hK => ?_) AllReadyH.nil
          go_simp
          refine hK.out _ _ ?_ (fun hHeld => ?_)
          · (trivial)
          clear hK K
          try simp only [Act.put, List.setIfInBounds_toArray, List.set_cons_zero, List.set_cons_succ]
          refine take_at (i := 11) (some 39) (v := ?_) rfl rfl (by kernel_rfl) (by kernel_rfl) (by kernel_rfl) (fun _ _ _ h => h) (Or.inl ⟨by rfl, ?_⟩) (by assumption) ?_
          rotate_left
          · (intro wx hSw; go_simp; try (with_reducible rfl))
          try simp only [Act.put, List.setIfInBounds_toArray, List.set_cons_zero, List.set_cons_succ]
          refine take_at (i := 12) (some 40) (v := ?_) rfl rfl (by kernel_rfl) (by kernel_rfl) (by kernel_rfl) (fun _ _ _ h => h) (Or.inl ⟨by rfl, ?_⟩) (by assumption) ?_
          rotate_left
          · (intro wx hSw; go_simp; try (with_reducible rfl))
          try simp only [Act.put, List.setIfInBounds_toArray, List.set_cons_zero, List.set_cons_succ]
          refine wpAnyH_ready (rs := [13]) (by kernel_rfl) (by simp) ?_
          refine AllReadyH.cons rfl (fun K hK => ?_) AllReadyH.nil
          refine step_append rfl _ _ 26 26 rfl 5 1 bytesApp none _ 0 0 [] (bv (bs.take (safe + kk))) _ rfl rfl (Own.nil_ _ _ _) (Src.slice (S := fun k => own = some k) (by first | exact hocD | exact hocE)) (bv_one _) (safe + kk) (by rw [bv_length, HL.out]; omega) (by omega) (by omega) ?_
          intro o1 A1 cap1 w1 hown1 hor1 hc1
          have hc01 : Chg (fun _ => False) wc w1 := Chg.trans (by first | exact (Chg.refl (fun _ => False) wc).drew.alloc _ | exact ((Chg.refl (fun _ => False) wc).alloc _).drew) hc1 (fun i hi hf => by cases hf)
          have hn1 : ∀ g, o1 = some g → w.heap.size ≤ g := fun g hg => by
            have := hcw.size
            rcases hor1 with h0 | h0
            · rw [h0] at hg; cases hg
            · rw [h0] at hg; simp at hg; omega
          have hh' := hc01.heap hh (fun h => h)
          obtain ⟨c0', c1', f0', f1'⟩ := two_cells hh'
          have hne' : o1 ≠ some D := hown1.ne_ hh' (by decide)
          have hs := two_set1 (two_set0 hh' (.slice A1 (safe + kk) cap1)) (.int .i64 ((safe : Int) + (kk : Int)))
          clear c0 c1 f0 f1 a0 a1 d0 d1
          refine hK.out _ _ ?_ (fun hHeld => ?_)
          · (trivial)
          clear hK K
          try simp only [Act.put, List.setIfInBounds_toArray, List.set_cons_zero, List.set_cons_succ]
          refine take_at (i := 14) (some 42) (v := ?_) rfl rfl (by kernel_rfl) (by kernel_rfl) (by kernel_rfl) (fun _ _ _ h => h) (Or.inl ⟨by rfl, ?_⟩) (by assumption) ?_
          rotate_left
          · (intro wx hSw; go_simp; try (with_reducible rfl))
          try simp only [Act.put, List.setIfInBounds_toArray, List.set_cons_zero, List.set_cons_succ]
          refine take_at (i := 15) (some 43) (v := ?_) rfl rfl (by kernel_rfl) (by kernel_rfl) (by kernel_rfl) (fun _ _ _ h => h) (Or.inl ⟨by rfl, ?_⟩) (by assumption) ?_
          rotate_left
          · (intro wx hSw; go_simp; try (with_reducible rfl))
          try simp only [Act.put, List.setIfInBounds_toArray, List.set_cons_zero, List.set_cons_succ]
          refine wpAnyH_ready (rs := [16]) (by kernel_rfl) (by simp) ?_
          refine AllReadyH.cons rfl (fun K hK => ?_) AllReadyH.nil
          go_simp
          refine hK.out _ _ ?_ (fun hHeld => ?_)
          · (trivial)
          clear hK K
          try simp only [Act.put, List.setIfInBounds_toArray, List.set_cons_zero, List.set_cons_succ]
          refine wpAnyH_done (by kernel_rfl) ?_ _
          go_wp2_with fail
          go_end0
          rw [HK.out]
          refine ⟨o1, rfl, ⟨by rw [HL.out]; exact Nat.le_refl _, by rw [HL.out]; omega, A1, cap1, ?_, ?_⟩, hn1, ?_⟩
          · rw [HL.out]; simpa using hs
          · rw [HL.out]; exact (hown1.setOther hne' _).setOther hne' _
          · exact (Chg.setIn (Chg.mono (T' := fun k => k = D) (hcw.trans hc01 (fun _ _ h => h)) (fun i _ h => h.elim)) rfl _ _).setIn rfl _ _
        refine AllReadyH.cons rfl (fun K hK => ?_) ?_
        · skip
          go_simp
          refine hK.out _ _ ?_ (fun hHeld => ?_)
          · (trivial)
          clear hK K
          try simp only [Act.put, List.setIfInBounds_toArray, List.set_cons_zero, List.set_cons_succ]
          refine take_at (i := 11) (some 39) (v := ?_) rfl rfl (by kernel_rfl) (by kernel_rfl) (by kernel_rfl) (fun _ _ _ h => h) (Or.inl ⟨by rfl, ?_⟩) (by assumption) ?_
          rotate_left
          · (intro wx hSw; go_simp; try (with_reducible rfl))
          try simp only [Act.put, List.setIfInBounds_toArray, List.set_cons_zero, List.set_cons_succ]
          refine take_at (i := 12) (some 40) (v := ?_) rfl rfl (by kernel_rfl) (by kernel_rfl) (by kernel_rfl) (fun _ _ _ h => h) (Or.inl ⟨by rfl, ?_⟩) (by assumption) ?_
          rotate_left
          · (intro wx hSw; go_simp; try (with_reducible rfl))
          try simp only [Act.put, List.setIfInBounds_toArray, List.set_cons_zero, List.set_cons_succ]
          refine wpAnyH_ready (rs := [1]) (by kernel_rfl) (by simp) ?_
          refine AllReadyH.cons rfl (fun K hK => ?_) AllReadyH.nil
          go_simp
          refine hK.out _ _ ?_ (fun hHeld => ?_)
          · (trivial)
          clear hK K
          try simp only [Act.put, List.setIfInBounds_toArray, List.set_cons_zero, List.set_cons_succ]
          refine wpAnyH_ready (rs := [13]) (by kernel_rfl) (by simp) ?_
          refine AllReadyH.cons rfl (fun K hK => ?_) AllReadyH.nil
          refine step_append rfl _ _ 26 26 rfl 5 1 bytesApp none _ 0 0 [] (bv (bs.take (safe + kk))) _ rfl rfl (Own.nil_ _ _ _) (Src.slice (S := fun k => own = some k) (by first | exact hocD | exact hocE)) (bv_one _) (safe + kk) (by rw [bv_length, HL.out]; omega) (by omega) (by omega) ?_
          intro o1 A1 cap1 w1 hown1 hor1 hc1
          have hc01 : Chg (fun _ => False) wc w1 := Chg.trans (by first | exact (Chg.refl (fun _ => False) wc).drew.alloc _ | exact ((Chg.refl (fun _ => False) wc).alloc _).drew) hc1 (fun i hi hf => by cases hf)
          have hn1 : ∀ g, o1 = some g → w.heap.size ≤ g := fun g hg => by
            have := hcw.size
            rcases hor1 with h0 | h0
            · rw [h0] at hg; cases hg
            · rw [h0] at hg; simp at hg; omega
          have hh' := hc01.heap hh (fun h => h)
          obtain ⟨c0', c1', f0', f1'⟩ := two_cells hh'
          have hne' : o1 ≠ some D := hown1.ne_ hh' (by decide)
          have hs := two_set1 (two_set0 hh' (.slice A1 (safe + kk) cap1)) (.int .i64 ((safe : Int) + (kk : Int)))
          clear c0 c1 f0 f1 a0 a1 d0 d1
          refine hK.out _ _ ?_ (fun hHeld => ?_)
          · (trivial)
          clear hK K
          try simp only [Act.put, List.setIfInBounds_toArray, List.set_cons_zero, List.set_cons_succ]
          refine take_at (i := 14) (some 42) (v := ?_) rfl rfl (by kernel_rfl) (by kernel_rfl) (by kernel_rfl) (fun _ _ _ h => h) (Or.inl ⟨by rfl, ?_⟩) (by assumption) ?_
          rotate_left
          · (intro wx hSw; go_simp; try (with_reducible rfl))
          try simp only [Act.put, List.setIfInBounds_toArray, List.set_cons_zero, List.set_cons_succ]
          refine take_at (i := 15) (some 43) (v := ?_) rfl rfl (by kernel_rfl) (by kernel_rfl) (by kernel_rfl) (fun _ _ _ h => h) (Or.inl ⟨by rfl, ?_⟩) (by assumption) ?_
          rotate_left
          · (intro wx hSw; go_simp; try (with_reducible rfl))
          try simp only [Act.put, List.setIfInBounds_toArray, List.set_cons_zero, List.set_cons_succ]
          refine wpAnyH_ready (rs := [16]) (by kernel_rfl) (by simp) ?_
          refine AllReadyH.cons rfl (fun K hK => ?_) AllReadyH.nil
          go_simp
          refine hK.out _ _ ?_ (fun hHeld => ?_)
          · (trivial)
          clear hK K
          try simp only [Act.put, List.setIfInBounds_toArray, List.set_cons_zero, List.set_cons_succ]
          refine wpAnyH_done (by kernel_rfl) ?_ _
          go_wp2_with fail
          go_end0
          rw [HK.out]
          refine ⟨o1, rfl, ⟨by rw [HL.out]; exact Nat.le_refl _, by rw [HL.out]; omega, A1, cap1, ?_, ?_⟩, hn1, ?_⟩
          · rw [HL.out]; simpa using hs
          · rw [HL.out]; exact (hown1.setOther hne' _).setOther hne' _
          · exact (Chg.setIn (Chg.mono (T' := fun k => k = D) (hcw.trans hc01 (fun _ _ h => h)) (fun i _ h => h.elim)) rfl _ _).setIn rfl _ _
        exact AllReadyH.nil
      refine AllReadyH.cons rfl (fun K hK => ?_) ?_
      · skip
        go_simp
        refine hK.out _ _ ?_ (fun hHeld => ?_)
        · (trivial)
        clear hK K
        try simp only [Act.put, List.setIfInBounds_toArray, List.set_cons_zero, List.set_cons_succ]
        refine take_at (i := 11) (some 39) (v := ?_) rfl rfl (by kernel_rfl) (by kernel_rfl) (by kernel_rfl) (fun _ _ _ h => h) (Or.inl ⟨by rfl, ?_⟩) (by assumption) ?_
        rotate_left
        · (intro wx hSw; go_simp; try (with_reducible rfl))
        try simp only [Act.put, List.setIfInBounds_toArray, List.set_cons_zero, List.set_cons_succ]
        refine wpAnyH_ready (rs := [1, 5]) (by kernel_rfl) (by simp) ?_
        refine AllReadyH.cons rfl (fun K hK => ?_) ?_
        · skip
          go_simp
          refine hK.out _ _ ?_ (fun hHeld => ?_)
          · (trivial)
          clear hK K
          try simp only [Act.put, List.setIfInBounds_toArray, List.set_cons_zero, List.set_cons_succ]
          refine wpAnyH_ready (rs := [5]) (by kernel_rfl) (by simp) ?_
          refine AllReadyH.cons rfl (fun K hK => ?_) AllReadyH.nil
          go_simp
          refine hK.out _ _ ?_ (fun hHeld => ?_)
          · (trivial)
          clear hK K
          try simp only [Act.put, List.setIfInBounds_toArray, List.set_cons_zero, List.set_cons_succ]
          refine take_at (i := 12) (some 40) (v := ?_) rfl rfl (by kernel_rfl) (by kernel_rfl) (by kernel_rfl) (fun _ _ _ h => h) (Or.inl ⟨by rfl, ?_⟩) (by assumption) ?_
          rotate_left
          · (intro wx hSw; go_simp; try (with_reducible rfl))
          try simp only [Act.put, List.setIfInBounds_toArray, List.set_cons_zero, List.set_cons_succ]
          refine wpAnyH_ready (rs := [13]) (by kernel_rfl) (by simp) ?_
          refine AllReadyH.cons rfl (fun K hK => ?_) AllReadyH.nil
          refine step_append rfl _ _ 26 26 rfl 5 1 bytesApp none _ 0 0 [] (bv (bs.take (safe + kk))) _ rfl rfl (Own.nil_ _ _ _) (Src.slice (S := fun k => own = some k) (by first | exact hocD | exact hocE)) (bv_one _) (safe + kk) (by rw [bv_length, HL.out]; omega) (by omega) (by omega) ?_
          intro o1 A1 cap1 w1 hown1 hor1 hc1
          have hc01 : Chg (fun _ => False) wc w1 := Chg.trans (by first | exact (Chg.refl (fun _ => False) wc).drew.alloc _ | exact ((Chg.refl (fun _ => False) wc).alloc _).drew) hc1 (fun i hi hf => by cases hf)
          have hn1 : ∀ g, o1 = some g → w.heap.size ≤ g := fun g hg => by
            have := hcw.size
            rcases hor1 with h0 | h0
            · rw [h0] at hg; cases hg
            · rw [h0] at hg; simp at hg; omega
          have hh' := hc01.heap hh (fun h => h)
          obtain ⟨c0', c1', f0', f1'⟩ := two_cells hh'
          have hne' : o1 ≠ some D := hown1.ne_ hh' (by decide)
          have hs := two_set1 (two_set0 hh' (.slice A1 (safe + kk) cap1)) (.int .i64 ((safe : Int) + (kk : Int)))
          clear c0 c1 f0 f1 a0 a1 d0 d1
          refine hK.out _ _ ?_ (fun hHeld => ?_)
          · (trivial)
          clear hK K
          try simp only [Act.put, List.setIfInBounds_toArray, List.set_cons_zero, List.set_cons_succ]
          refine take_at (i := 14) (some 42) (v := ?_) rfl rfl (by kernel_rfl) (by kernel_rfl) (by kernel_rfl) (fun _ _ _ h => h) (Or.inl ⟨by rfl, ?_⟩) (by assumption) ?_
          rotate_left
          · (intro wx hSw; go_simp; try (with_reducible rfl))
          try simp only [Act.put, List.setIfInBounds_toArray, List.set_cons_zero, List.set_cons_succ]
          refine take_at (i := 15) (some 43) (v := ?_) rfl rfl (by kernel_rfl) (by kernel_rfl) (by kernel_rfl) (fun _ _ _ h => h) (Or.inl ⟨by rfl, ?_⟩) (by assumption) ?_
          rotate_left
          · (intro wx hSw; go_simp; try (with_reducible rfl))
          try simp only [Act.put, List.setIfInBounds_toArray, List.set_cons_zero, List.set_cons_succ]
          refine wpAnyH_ready (rs := [16]) (by kernel_rfl) (by simp) ?_
          refine AllReadyH.cons rfl (fun K hK => ?_) AllReadyH.nil
          go_simp
          refine hK.out _ _ ?_ (fun hHeld => ?_)
          · (trivial)
          clear hK K
          try simp only [Act.put, List.setIfInBounds_toArray, List.set_cons_zero, List.set_cons_succ]
          refine wpAnyH_done (by kernel_rfl) ?_ _
          go_wp2_with fail
          go_end0
          rw [HK.out]
          refine ⟨o1, rfl, ⟨by rw [HL.out]; exact Nat.le_refl _, by rw [HL.out]; omega, A1, cap1, ?_, ?_⟩, hn1, ?_⟩
          · rw [HL.out]; simpa using hs
          · rw [HL.out]; exact (hown1.setOther hne' _).setOther hne' _
          · exact (Chg.setIn (Chg.mono (T' := fun k => k = D) (hcw.trans hc01 (fun _ _ h => h)) (fun i _ h => h.elim)) rfl _ _).setIn rfl _ _
        refine AllReadyH.cons rfl (fun K hK => ?_) ?_
        · skip
          go_simp
          refine hK.out _ _ ?_ (fun hHeld => ?_)
          · (trivial)
          clear hK K
          try simp only [Act.put, List.setIfInBounds_toArray, List.set_cons_zero, List.set_cons_succ]
          refine take_at (i := 12) (some 40) (v := ?_) rfl rfl (by kernel_rfl) (by kernel_rfl) (by kernel_rfl) (fun _ _ _ h => h) (Or.inl ⟨by rfl, ?_⟩) (by assumption) ?_
          rotate_left
          · (intro wx hSw; go_simp; try (with_reducible rfl))
          try simp only [Act.put, List.setIfInBounds_toArray, List.set_cons_zero, List.set_cons_succ]
          refine wpAnyH_ready (rs := [1]) (by kernel_rfl) (by simp) ?_
          refine AllReadyH.cons rfl (fun K hK => ?_) AllReadyH.nil
          go_simp
          refine hK.out _ _ ?_ (fun hHeld => ?_)
          · (trivial)
          clear hK K
          try simp only [Act.put, List.setIfInBounds_toArray, List.set_cons_zero, List.set_cons_succ]
          refine wpAnyH_ready (rs := [13]) (by kernel_rfl) (by simp) ?_
          refine AllReadyH.cons rfl (fun K hK => ?_) AllReadyH.nil
          refine step_append rfl _ _ 26 26 rfl 5 1 bytesApp none _ 0 0 [] (bv (bs.take (safe + kk))) _ rfl rfl (Own.nil_ _ _ _) (Src.slice (S := fun k => own = some k) (by first | exact hocD | exact hocE)) (bv_one _) (safe + kk) (by rw [bv_length, HL.out]; omega) (by omega) (by omega) ?_
          intro o1 A1 cap1 w1 hown1 hor1 hc1
          have hc01 : Chg (fun _ => False) wc w1 := Chg.trans (by first | exact (Chg.refl (fun _ => False) wc).drew.alloc _ | exact ((Chg.refl (fun _ => False) wc).alloc _).drew) hc1 (fun i hi hf => by cases hf)
          have hn1 : ∀ g, o1 = some g → w.heap.size ≤ g := fun g hg => by
            have := hcw.size
            rcases hor1 with h0 | h0
            · rw [h0] at hg; cases hg
            · rw [h0] at hg; simp at hg; omega
          have hh' := hc01.heap hh (fun h => h)
          obtain ⟨c0', c1', f0', f1'⟩ := two_cells hh'
          have hne' : o1 ≠ some D := hown1.ne_ hh' (by decide)
          have hs := two_set1 (two_set0 hh' (.slice A1 (safe + kk) cap1)) (.int .i64 ((safe : Int) + (kk : Int)))
          clear c0 c1 f0 f1 a0 a1 d0 d1
          refine hK.out _ _ ?_ (fun hHeld => ?_)
          · (trivial)
          clear hK K
          try simp only [Act.put, List.setIfInBounds_toArray, List.set_cons_zero, List.set_cons_succ]
          refine take_at (i := 14) (some 42) (v := ?_) rfl rfl (by kernel_rfl) (by kernel_rfl) (by kernel_rfl) (fun _ _ _ h => h) (Or.inl ⟨by rfl, ?_⟩) (by assumption) ?_
          rotate_left
          · (intro wx hSw; go_simp; try (with_reducible rfl))
          try simp only [Act.put, List.setIfInBounds_toArray, List.set_cons_zero, List.set_cons_succ]
          refine take_at (i := 15) (some 43) (v := ?_) rfl rfl (by kernel_rfl) (by kernel_rfl) (by kernel_rfl) (fun _ _ _ h => h) (Or.inl ⟨by rfl, ?_⟩) (by assumption) ?_
          rotate_left
          · (intro wx hSw; go_simp; try (with_reducible rfl))
          try simp only [Act.put, List.setIfInBounds_toArray, List.set_cons_zero, List.set_cons_succ]
          refine wpAnyH_ready (rs := [16]) (by kernel_rfl) (by simp) ?_
          refine AllReadyH.cons rfl (fun K hK => ?_) AllReadyH.nil
          go_simp
          refine hK.out _ _ ?_ (fun hHeld => ?_)
          · (trivial)
          clear hK K
          try simp only [Act.put, List.setIfInBounds_toArray, List.set_cons_zero, List.set_cons_succ]
          refine wpAnyH_done (by kernel_rfl) ?_ _
          go_wp2_with fail
          go_end0
          rw [HK.out]
          refine ⟨o1, rfl, ⟨by rw [HL.out]; exact Nat.le_refl _, by rw [HL.out]; omega, A1, cap1, ?_, ?_⟩, hn1, ?_⟩
          · rw [HL.out]; simpa using hs
          · rw [HL.out]; exact (hown1.setOther hne' _).setOther hne' _
          · exact (Chg.setIn (Chg.mono (T' := fun k => k = D) (hcw.trans hc01 (fun _ _ h => h)) (fun i _ h => h.elim)) rfl _ _).setIn rfl _ _
        exact AllReadyH.nil
      exact AllReadyH.nil
end Go.Proofs.Ytnehkheojgmocaa
