/-
  WalPlays: a log holds what the document says, for any calls; opened again without a crash it is the same: the walk through the law.
-/
import Derived.Test.YtlnjadnddldjeaaPlay
import Derived.Test.YtlnjadnddldjeaaArgs21
import Derived.Deep.CutBlock
namespace Go.Proofs.Ytlnjadnddldjeaa
open Go.RowKit
set_option linter.unusedVariables false
set_option linter.unusedSimpArgs false

def none21 : Nat → Prop := fun _ => False
theorem pS_len {t : LSt} {n : Int} {s : ByteArray} : (pS t n s).rs.length ≤ t.rs.length + 1 := by
  unfold pS
  split
  · omega
  · exact putS_len
theorem three_cells {w : World} {D : Nat} {x y z : Value} {t : TypeId} (h : w.heap[D]? = some (.cells #[x, y, z] t (0, 0))) :
    (w.cell? ⟨D, 0, none⟩ = some x ∧ w.cell? ⟨D, 1, none⟩ = some y ∧ w.cell? ⟨D, 2, none⟩ = some z) ∧ ∀ j, w.frozen? ⟨D, j, none⟩ = false := by
  refine ⟨⟨?_, ?_, ?_⟩, fun j => by simp only [World.frozen?]; rw [h]; simp⟩
  all_goals
    simp only [World.cell?]; rw [h]; rfl
theorem three_set2 {w : World} {D : Nat} {x y z : Value} {t : TypeId} (h : w.heap[D]? = some (.cells #[x, y, z] t (0, 0))) (a : Value) : (w.setCell ⟨D, 2, none⟩ a).heap[D]? = some (.cells #[x, y, a] t (0, 0)) :=
  heap_setCell_same w D 2 _ _ a h
theorem Play2.rsLen {W D R k L : Nat} {Z Y : Nat → Prop} {w0 w : World} {tx ty : LSt} {sa : Bool} (h : Play2 W D R Z Y w0 k L tx ty sa w) : ty.rs.length ≤ k := by
  obtain ⟨V, U, es, safe, h1, h2, h3, h4, h5, h5y, h6, h7, h8, h9, h10, h11, h12, h13, h14⟩ := h
  exact h11
theorem Play2.more {W D R k L : Nat} {Z Y : Nat → Prop} {w0 w : World} {tx ty : LSt} {sa : Bool} (h : Play2 W D R Z Y w0 k L tx ty sa w) (hk : k < 200) : Play2 W D R Z Y w0 (k + 1) L tx ty sa w := by
  obtain ⟨V, U, es, safe, h1, h2, h3, h4, h5, h5y, h6, h7, h8, h9, h10, h11, h12, h13, h14⟩ := h
  exact ⟨V, U, es, safe, h1, h2, h3, h4, h5, h5y, h6, by omega, by omega, h9, h10, by omega, by omega, h13, h14⟩

set_option maxRecDepth 100000 in
set_option maxHeartbeats 8000000 in
theorem plays_walk {w : World} {A0 : Option Addr} {n0 c0 : Nat} (ha0 : WAsksArg w A0 n0 c0) :
    Calls Try.prog 9 #[.slice A0 n0 c0] w (Known21 w) := by
  obtain ⟨hc0, hm0, hall⟩ := ha0
  have HALL := Lib.hid hall
  obtain ⟨W, hW⟩ : ∃ W, w.heap.size = W := ⟨_, rfl⟩
  have HW := Lib.hid hW
  have HF := Lib.hid (fresh_calls (fun k => W ≤ k) w (fun k hk => by omega))
  clear hall hW
  go_enter Try.func9, Try.ntmps9
  go_wp2_with fail
  (with_reducible refine HF.out.mono ?_)
  rintro e w1 ⟨L, D, rfl, h1, k1⟩
  have z1 := k1.size
  go_wp2_with fail
  refine (RNew_calls w1).mono ?_
  rintro e w2 ⟨rfl, h2, k2⟩
  obtain ⟨R, hR⟩ : ∃ R, w1.heap.size = R := ⟨_, rfl⟩
  rw [hR] at h2 ⊢
  have z2 := k2.size
  have hP : Play2 W D R none21 none21 w 0 L init21 init21 false w2 := by
    have hw := HW.out
    have hr2 := (h2 (fun i => i = R) rfl).lt
    exact ⟨fun i => W ≤ i ∧ i < w1.heap.size, fun i => i = R, [], 0, (h1.mono fun i hi hv => ⟨hv, hi⟩).keep k2, h2 _ rfl, fun i hi => ⟨hi.1, by omega, fun e => by omega, fun h => h, fun h => h⟩, fun i hi => ⟨by omega, by omega, fun h => h⟩, fun i hi => hi.elim, fun i hi => hi.elim, k1.trans k2 (fun _ _ h => h.elim), by rw [eb_nil]; decide, by decide, by decide, (fun s hs => by cases hs), by decide, by decide, by omega, fun h => by cases h⟩
  have HP := Lib.hid hP
  clear h1 k1 z1 h2 k2 z2 hR hP
  go_upto_block 0 with fail
  go_cut [7] (fun i wx => ∃ k : Nat, i = .int .i64 (k : Int) ∧ Hid (Chg (fun k => W ≤ k) w wx))
  case first =>
    go_wp2_with fail
    go_loopw [7, 4] (fun i x wr => ∃ (k L : Nat) (t : LSt), i = .int .i64 (k : Int) ∧ x = .pointer (some ⟨L, 0, none⟩) ∧ k ≤ n0 ∧ k ≤ 60 ∧ Hid (Play2 W D R none21 none21 w k L t t false wr)) (fun i _ _ => n0 - (intOf i).toNat)
    case atStart => exact ⟨0, L, init21, rfl, rfl, Nat.zero_le _, Nat.zero_le _, HP⟩
    case round =>
      clear HP
      obtain ⟨k, L1, t, rfl, rfl, hk1, hk2, HP⟩ := hrel
      obtain ⟨w0, rfl⟩ : ∃ x : World, x = wr := ⟨_, rfl⟩
      by_cases hrun : k < n0 ∧ k < 60
      · obtain ⟨hlt, h60⟩ := hrun
        obtain ⟨b, off, hA, hb, hat⟩ := HALL.out (by omega)
        subst hA
        have hbW : ¬ W ≤ b := by have := HW.out; omega
        obtain ⟨κ, n, s, q0, q1, q2, bκ, bn, bs⟩ := hat k hlt
        have q0 := HP.out.base.1.cell q0 hbW
        have q1 := HP.out.base.1.cell q1 hbW
        have q2 := HP.out.base.1.cell q2 hbW
        obtain ⟨B, hB⟩ : ∃ B, w0.heap.size = B := ⟨_, rfl⟩
        have hkn : (k : Int) < (n0 : Int) := by omega
        have ka : Chg (fun _ => False) w0 (w0.alloc (.cells #[.int .i64 κ, .int .i64 n, .string s] 55)) := (Chg.refl (fun _ => False) w0).alloc _
        have hPa := HP.out.addY ka (by simp)
        have hha : (w0.alloc (.cells #[.int .i64 κ, .int .i64 n, .string s] 55)).heap[B]? = some (.cells #[.int .i64 κ, .int .i64 n, .string s] 55 (0, 0)) := by rw [← hB]; exact heap_alloc_new w0 _
        rw [hB] at hPa
        have HPA := Lib.hid hPa
        have HHA := Lib.hid hha
        have HB := Lib.hid hB
        clear hat hB hPa hha ka
        have f2 := (three_cells HHA.out).2 2
        obtain ⟨sf, hsf⟩ : ∃ sf, few21 s = sf := ⟨_, rfl⟩
        have hsz : sf.size ≤ 100 := by rw [← hsf]; exact few21_size s
        have hfew := few_calls (w0.alloc (.cells #[.int .i64 κ, .int .i64 n, .string s] 55)) s
        rw [hsf] at hfew
        have HFEW := Lib.hid hfew
        have HSZ := Lib.hid hsz
        clear hsf hfew hsz
        go_wp2_with fail
        (with_reducible refine HFEW.out.mono ?_)
        rintro e w2 ⟨rfl, rfl⟩
        have hBw := HB.out
        rw [hBw]
        go_upto_block 2 with fail
        have ka : Chg (fun _ => False) w0 (w0.alloc (.cells #[.int .i64 κ, .int .i64 n, .string sf] 55)) := (Chg.refl (fun _ => False) w0).alloc _
        have hP1 := HP.out.addY ka (by simp)
        have hh1 : (w0.alloc (.cells #[.int .i64 κ, .int .i64 n, .string sf] 55)).heap[B]? = some (.cells #[.int .i64 κ, .int .i64 n, .string sf] 55 (0, 0)) := by rw [← HB.out]; exact heap_alloc_new w0 _
        rw [HB.out] at hP1
        obtain ⟨wB, hwB⟩ : ∃ wB, w0.alloc (.cells #[.int .i64 κ, .int .i64 n, .string sf] 55) = wB := ⟨_, rfl⟩
        rw [hwB] at hh1 hP1 ⊢
        obtain ⟨⟨d0, d1, d2⟩, -⟩ := three_cells hh1
        have HP1 := Lib.hid hP1
        clear hwB f2 hh1 hP1 HPA HHA HFEW q0 q1 q2 hBw ka
        go_cut [4] (fun x wx => ∃ (L' : Nat) (t' : LSt), x = .pointer (some ⟨L', 0, none⟩) ∧ Hid (Play2 W D R none21 none21 w (k + 1) L' t' t' false wx))
        case first =>
          have hlt1 : t.rs.length ≤ k := HP.out.rsLen
          clear d0
          by_cases e1 : κ = 1
          · subst e1
            go_wp2_with fail
            refine wp_region_held_drew (S := fun wx => wx.cell? ⟨B, 1, none⟩ = some (.int .i64 n) ∧ wx.cell? ⟨B, 2, none⟩ = some (.string sf)) (by kernel_rfl) ⟨d1, d2⟩ (fun hHeld => ?_)
            refine take_at (i := 0) (some 53) (v := ?_) rfl rfl (by kernel_rfl) (by kernel_rfl) (by kernel_rfl) (fun _ _ _ h => h) (Or.inl ⟨by rfl, ?_⟩) (by assumption) ?_
            rotate_left
            · (intro wx hSw; go_simp; try (with_reducible rfl))
            try simp only [Act.put, List.setIfInBounds_toArray, List.set_cons_zero, List.set_cons_succ]
            refine take_at (i := 1) (some 54) (v := ?_) rfl rfl (by kernel_rfl) (by kernel_rfl) (by kernel_rfl) (fun _ _ _ h => h) (Or.inl ⟨by rfl, ?_⟩) (by assumption) ?_
            rotate_left
            · (intro wx hSw; go_simp; try (with_reducible rfl))
            try simp only [Act.put, List.setIfInBounds_toArray, List.set_cons_zero, List.set_cons_succ]
            refine take_at (i := 2) (some 55) (v := ?_) rfl rfl (by kernel_rfl) (by kernel_rfl) (by kernel_rfl) (fun _ _ _ h => h) (Or.inl ⟨by rfl, ?_⟩) (by assumption) ?_
            rotate_left
            · (intro wx hSw; go_simp; try (with_reducible rfl))
            try simp only [Act.put, List.setIfInBounds_toArray, List.set_cons_zero, List.set_cons_succ]
            refine take_at (i := 3) (some 56) (v := ?_) rfl rfl (by kernel_rfl) (by kernel_rfl) (by kernel_rfl) (fun _ _ _ h => h) (Or.inl ⟨by rfl, ?_⟩) (by assumption) ?_
            rotate_left
            · (intro wx hSw; go_simp; try (with_reducible rfl))
            try simp only [Act.put, List.setIfInBounds_toArray, List.set_cons_zero, List.set_cons_succ]
            refine take_at (i := 4) (some 57) (v := ?_) rfl rfl (by kernel_rfl) (by kernel_rfl) (by kernel_rfl) (fun _ _ _ h => h) (Or.inl ⟨by rfl, ?_⟩) (by assumption) ?_
            rotate_left
            · (intro wx hSw; go_simp; try (with_reducible rfl))
            try simp only [Act.put, List.setIfInBounds_toArray, List.set_cons_zero, List.set_cons_succ]
            refine take_at (i := 6) (some 59) (v := ?_) rfl rfl (by kernel_rfl) (by kernel_rfl) (by kernel_rfl) (fun _ _ _ h => h) (Or.inl ⟨by rfl, ?_⟩) (by assumption) ?_
            rotate_left
            · (intro wx hSw; go_simp; try (with_reducible rfl))
            try simp only [Act.put, List.setIfInBounds_toArray, List.set_cons_zero, List.set_cons_succ]
            refine take_at (i := 7) (some 60) (v := ?_) rfl rfl (by kernel_rfl) (by kernel_rfl) (by kernel_rfl) (fun _ _ _ h => h) (Or.inl ⟨by rfl, ?_⟩) (by assumption) ?_
            rotate_left
            · (intro wx hSw; go_simp; try (with_reducible rfl))
            try simp only [Act.put, List.setIfInBounds_toArray, List.set_cons_zero, List.set_cons_succ]
            refine take_at (i := 8) (some 61) (v := ?_) rfl rfl (by kernel_rfl) (by kernel_rfl) (by kernel_rfl) (fun _ _ _ h => h) (Or.inl ⟨by rfl, ?_⟩) (by assumption) ?_
            rotate_left
            · (intro wx hSw; go_simp; try (with_reducible rfl))
            try simp only [Act.put, List.setIfInBounds_toArray, List.set_cons_zero, List.set_cons_succ]
            refine take_at (i := 9) (some 62) (v := ?_) rfl rfl (by kernel_rfl) (by kernel_rfl) (by kernel_rfl) (fun _ _ _ h => h) (Or.inl ⟨by rfl, ?_⟩) (by assumption) ?_
            rotate_left
            · (intro wx hSw; go_simp; try (with_reducible rfl))
            try simp only [Act.put, List.setIfInBounds_toArray, List.set_cons_zero, List.set_cons_succ]
            refine take_at (i := 10) (some 63) (v := ?_) rfl rfl (by kernel_rfl) (by kernel_rfl) (by kernel_rfl) (fun _ _ _ h => h) (Or.inl ⟨by rfl, ?_⟩) (by assumption) ?_
            rotate_left
            · (intro wx hSw; go_simp; try (with_reducible rfl))
            try simp only [Act.put, List.setIfInBounds_toArray, List.set_cons_zero, List.set_cons_succ]
            refine wpAnyH_ready (rs := [5]) (by kernel_rfl) (by simp) ?_
            refine AllReadyH.cons rfl (fun K hK => ?_) AllReadyH.nil
            go_simp
            refine ((HP1.out.keep ((Chg.refl (fun _ => False) wB).drew)).xput n sf HSZ.out (by omega)).mono ?_
            rintro e w3 ⟨rfl, h3, k3⟩
            have q1 := k3.cell (p := ⟨B, 1, none⟩) d1 (fun h => h.2.2 (Or.inr rfl))
            have q2 := k3.cell (p := ⟨B, 2, none⟩) d2 (fun h => h.2.2 (Or.inr rfl))
            go_wp2_with fail
            refine hK.out _ _ ?_ (fun hHeld => ?_)
            · (first | exact ⟨p1, p2⟩ | exact ⟨q1, q2⟩)
            clear hK K
            try simp only [Act.put, List.setIfInBounds_toArray, List.set_cons_zero, List.set_cons_succ]
            refine wpAnyH_ready (rs := [11]) (by kernel_rfl) (by simp) ?_
            refine AllReadyH.cons rfl (fun K hK => ?_) AllReadyH.nil
            go_simp
            refine (h3.rput n sf HSZ.out (by have := pS_len (t := t) (n := n) (s := sf); omega)).mono ?_
            rintro e w4 ⟨rfl, h4, k4⟩
            have p1 := k4.cell (p := ⟨B, 1, none⟩) q1 (fun h => h.2.2 (Or.inr rfl))
            have p2 := k4.cell (p := ⟨B, 2, none⟩) q2 (fun h => h.2.2 (Or.inr rfl))
            go_wp2_with fail
            refine hK.out _ _ ?_ (fun hHeld => ?_)
            · (first | exact ⟨p1, p2⟩ | exact ⟨q1, q2⟩)
            clear hK K
            try simp only [Act.put, List.setIfInBounds_toArray, List.set_cons_zero, List.set_cons_succ]
            refine take_at (i := 12) (some 65) (v := ?_) rfl rfl (by kernel_rfl) (by kernel_rfl) (by kernel_rfl) (fun _ _ _ h => h) (Or.inl ⟨by rfl, ?_⟩) (by assumption) ?_
            rotate_left
            · (intro wx hSw; go_simp; try (with_reducible rfl))
            try simp only [Act.put, List.setIfInBounds_toArray, List.set_cons_zero, List.set_cons_succ]
            refine wpAnyH_done (by kernel_rfl) ?_ _
            go_wp2_with fail
            go_meet
            exact ⟨L1, pS t n sf, rfl, Lib.hid (h4.ymono fun i h => h.elim)⟩
          · by_cases e2 : κ = 2
            · subst e2
              clear e1
              go_wp2_with fail
              refine wp_region_held_drew (S := fun wx => wx.cell? ⟨B, 1, none⟩ = some (.int .i64 n) ∧ wx.cell? ⟨B, 2, none⟩ = some (.string sf)) (by kernel_rfl) ⟨d1, d2⟩ (fun hHeld => ?_)
              refine take_at (i := 0) (some 68) (v := ?_) rfl rfl (by kernel_rfl) (by kernel_rfl) (by kernel_rfl) (fun _ _ _ h => h) (Or.inl ⟨by rfl, ?_⟩) (by assumption) ?_
              rotate_left
              · (intro wx hSw; go_simp; try (with_reducible rfl))
              try simp only [Act.put, List.setIfInBounds_toArray, List.set_cons_zero, List.set_cons_succ]
              refine take_at (i := 1) (some 69) (v := ?_) rfl rfl (by kernel_rfl) (by kernel_rfl) (by kernel_rfl) (fun _ _ _ h => h) (Or.inl ⟨by rfl, ?_⟩) (by assumption) ?_
              rotate_left
              · (intro wx hSw; go_simp; try (with_reducible rfl))
              try simp only [Act.put, List.setIfInBounds_toArray, List.set_cons_zero, List.set_cons_succ]
              refine take_at (i := 2) (some 70) (v := ?_) rfl rfl (by kernel_rfl) (by kernel_rfl) (by kernel_rfl) (fun _ _ _ h => h) (Or.inl ⟨by rfl, ?_⟩) (by assumption) ?_
              rotate_left
              · (intro wx hSw; go_simp; try (with_reducible rfl))
              try simp only [Act.put, List.setIfInBounds_toArray, List.set_cons_zero, List.set_cons_succ]
              refine take_at (i := 4) (some 72) (v := ?_) rfl rfl (by kernel_rfl) (by kernel_rfl) (by kernel_rfl) (fun _ _ _ h => h) (Or.inl ⟨by rfl, ?_⟩) (by assumption) ?_
              rotate_left
              · (intro wx hSw; go_simp; try (with_reducible rfl))
              try simp only [Act.put, List.setIfInBounds_toArray, List.set_cons_zero, List.set_cons_succ]
              refine take_at (i := 5) (some 73) (v := ?_) rfl rfl (by kernel_rfl) (by kernel_rfl) (by kernel_rfl) (fun _ _ _ h => h) (Or.inl ⟨by rfl, ?_⟩) (by assumption) ?_
              rotate_left
              · (intro wx hSw; go_simp; try (with_reducible rfl))
              try simp only [Act.put, List.setIfInBounds_toArray, List.set_cons_zero, List.set_cons_succ]
              refine take_at (i := 6) (some 74) (v := ?_) rfl rfl (by kernel_rfl) (by kernel_rfl) (by kernel_rfl) (fun _ _ _ h => h) (Or.inl ⟨by rfl, ?_⟩) (by assumption) ?_
              rotate_left
              · (intro wx hSw; go_simp; try (with_reducible rfl))
              try simp only [Act.put, List.setIfInBounds_toArray, List.set_cons_zero, List.set_cons_succ]
              refine wpAnyH_ready (rs := [3]) (by kernel_rfl) (by simp) ?_
              refine AllReadyH.cons rfl (fun K hK => ?_) AllReadyH.nil
              go_simp
              refine ((HP1.out.keep ((Chg.refl (fun _ => False) wB).drew)).xmeta sf HSZ.out (by omega)).mono ?_
              rintro e w3 ⟨rfl, h3, k3⟩
              have q1 := k3.cell (p := ⟨B, 1, none⟩) d1 (fun h => h.2.2 (Or.inr rfl))
              have q2 := k3.cell (p := ⟨B, 2, none⟩) d2 (fun h => h.2.2 (Or.inr rfl))
              go_wp2_with fail
              refine hK.out _ _ ?_ (fun hHeld => ?_)
              · (first | exact ⟨p1, p2⟩ | exact ⟨q1, q2⟩)
              clear hK K
              try simp only [Act.put, List.setIfInBounds_toArray, List.set_cons_zero, List.set_cons_succ]
              refine wpAnyH_ready (rs := [7]) (by kernel_rfl) (by simp) ?_
              refine AllReadyH.cons rfl (fun K hK => ?_) AllReadyH.nil
              go_simp
              refine (h3.rmeta sf HSZ.out).mono ?_
              rintro e w4 ⟨rfl, h4, k4⟩
              have p1 := k4.cell (p := ⟨B, 1, none⟩) q1 (fun h => h.2.2 (Or.inr rfl))
              have p2 := k4.cell (p := ⟨B, 2, none⟩) q2 (fun h => h.2.2 (Or.inr rfl))
              go_wp2_with fail
              refine hK.out _ _ ?_ (fun hHeld => ?_)
              · (first | exact ⟨p1, p2⟩ | exact ⟨q1, q2⟩)
              clear hK K
              try simp only [Act.put, List.setIfInBounds_toArray, List.set_cons_zero, List.set_cons_succ]
              refine take_at (i := 8) (some 76) (v := ?_) rfl rfl (by kernel_rfl) (by kernel_rfl) (by kernel_rfl) (fun _ _ _ h => h) (Or.inl ⟨by rfl, ?_⟩) (by assumption) ?_
              rotate_left
              · (intro wx hSw; go_simp; try (with_reducible rfl))
              try simp only [Act.put, List.setIfInBounds_toArray, List.set_cons_zero, List.set_cons_succ]
              refine wpAnyH_done (by kernel_rfl) ?_ _
              go_wp2_with fail
              go_meet
              exact ⟨L1, mS t sf, rfl, Lib.hid (h4.ymono fun i h => h.elim)⟩
            · by_cases e3 : κ = 3
              · subst e3
                clear e1 e2
                go_wp2_with fail
                refine wp_region_held_drew (S := fun wx => wx.cell? ⟨B, 1, none⟩ = some (.int .i64 n) ∧ wx.cell? ⟨B, 2, none⟩ = some (.string sf)) (by kernel_rfl) ⟨d1, d2⟩ (fun hHeld => ?_)
                refine take_at (i := 0) (some 79) (v := ?_) rfl rfl (by kernel_rfl) (by kernel_rfl) (by kernel_rfl) (fun _ _ _ h => h) (Or.inl ⟨by rfl, ?_⟩) (by assumption) ?_
                rotate_left
                · (intro wx hSw; go_simp; try (with_reducible rfl))
                try simp only [Act.put, List.setIfInBounds_toArray, List.set_cons_zero, List.set_cons_succ]
                refine take_at (i := 1) (some 80) (v := ?_) rfl rfl (by kernel_rfl) (by kernel_rfl) (by kernel_rfl) (fun _ _ _ h => h) (Or.inl ⟨by rfl, ?_⟩) (by assumption) ?_
                rotate_left
                · (intro wx hSw; go_simp; try (with_reducible rfl))
                try simp only [Act.put, List.setIfInBounds_toArray, List.set_cons_zero, List.set_cons_succ]
                refine take_at (i := 2) (some 81) (v := ?_) rfl rfl (by kernel_rfl) (by kernel_rfl) (by kernel_rfl) (fun _ _ _ h => h) (Or.inl ⟨by rfl, ?_⟩) (by assumption) ?_
                rotate_left
                · (intro wx hSw; go_simp; try (with_reducible rfl))
                try simp only [Act.put, List.setIfInBounds_toArray, List.set_cons_zero, List.set_cons_succ]
                refine take_at (i := 3) (some 82) (v := ?_) rfl rfl (by kernel_rfl) (by kernel_rfl) (by kernel_rfl) (fun _ _ _ h => h) (Or.inl ⟨by rfl, ?_⟩) (by assumption) ?_
                rotate_left
                · (intro wx hSw; go_simp; try (with_reducible rfl))
                try simp only [Act.put, List.setIfInBounds_toArray, List.set_cons_zero, List.set_cons_succ]
                refine take_at (i := 4) (some 83) (v := ?_) rfl rfl (by kernel_rfl) (by kernel_rfl) (by kernel_rfl) (fun _ _ _ h => h) (Or.inl ⟨by rfl, ?_⟩) (by assumption) ?_
                rotate_left
                · (intro wx hSw; go_simp; try (with_reducible rfl))
                try simp only [Act.put, List.setIfInBounds_toArray, List.set_cons_zero, List.set_cons_succ]
                refine take_at (i := 6) (some 85) (v := ?_) rfl rfl (by kernel_rfl) (by kernel_rfl) (by kernel_rfl) (fun _ _ _ h => h) (Or.inl ⟨by rfl, ?_⟩) (by assumption) ?_
                rotate_left
                · (intro wx hSw; go_simp; try (with_reducible rfl))
                try simp only [Act.put, List.setIfInBounds_toArray, List.set_cons_zero, List.set_cons_succ]
                refine take_at (i := 7) (some 86) (v := ?_) rfl rfl (by kernel_rfl) (by kernel_rfl) (by kernel_rfl) (fun _ _ _ h => h) (Or.inl ⟨by rfl, ?_⟩) (by assumption) ?_
                rotate_left
                · (intro wx hSw; go_simp; try (with_reducible rfl))
                try simp only [Act.put, List.setIfInBounds_toArray, List.set_cons_zero, List.set_cons_succ]
                refine take_at (i := 8) (some 87) (v := ?_) rfl rfl (by kernel_rfl) (by kernel_rfl) (by kernel_rfl) (fun _ _ _ h => h) (Or.inl ⟨by rfl, ?_⟩) (by assumption) ?_
                rotate_left
                · (intro wx hSw; go_simp; try (with_reducible rfl))
                try simp only [Act.put, List.setIfInBounds_toArray, List.set_cons_zero, List.set_cons_succ]
                refine take_at (i := 9) (some 88) (v := ?_) rfl rfl (by kernel_rfl) (by kernel_rfl) (by kernel_rfl) (fun _ _ _ h => h) (Or.inl ⟨by rfl, ?_⟩) (by assumption) ?_
                rotate_left
                · (intro wx hSw; go_simp; try (with_reducible rfl))
                try simp only [Act.put, List.setIfInBounds_toArray, List.set_cons_zero, List.set_cons_succ]
                refine take_at (i := 10) (some 89) (v := ?_) rfl rfl (by kernel_rfl) (by kernel_rfl) (by kernel_rfl) (fun _ _ _ h => h) (Or.inl ⟨by rfl, ?_⟩) (by assumption) ?_
                rotate_left
                · (intro wx hSw; go_simp; try (with_reducible rfl))
                try simp only [Act.put, List.setIfInBounds_toArray, List.set_cons_zero, List.set_cons_succ]
                refine wpAnyH_ready (rs := [5]) (by kernel_rfl) (by simp) ?_
                refine AllReadyH.cons rfl (fun K hK => ?_) AllReadyH.nil
                go_simp
                refine ((HP1.out.keep ((Chg.refl (fun _ => False) wB).drew)).xbase n sf HSZ.out (by omega)).mono ?_
                rintro e w3 ⟨rfl, h3, k3⟩
                have q1 := k3.cell (p := ⟨B, 1, none⟩) d1 (fun h => h.2.2 (Or.inr rfl))
                have q2 := k3.cell (p := ⟨B, 2, none⟩) d2 (fun h => h.2.2 (Or.inr rfl))
                go_wp2_with fail
                refine hK.out _ _ ?_ (fun hHeld => ?_)
                · (first | exact ⟨p1, p2⟩ | exact ⟨q1, q2⟩)
                clear hK K
                try simp only [Act.put, List.setIfInBounds_toArray, List.set_cons_zero, List.set_cons_succ]
                refine wpAnyH_ready (rs := [11]) (by kernel_rfl) (by simp) ?_
                refine AllReadyH.cons rfl (fun K hK => ?_) AllReadyH.nil
                go_simp
                refine (h3.rbase n sf HSZ.out).mono ?_
                rintro e w4 ⟨rfl, h4, k4⟩
                have p1 := k4.cell (p := ⟨B, 1, none⟩) q1 (fun h => h.2.2 (Or.inr rfl))
                have p2 := k4.cell (p := ⟨B, 2, none⟩) q2 (fun h => h.2.2 (Or.inr rfl))
                go_wp2_with fail
                refine hK.out _ _ ?_ (fun hHeld => ?_)
                · (first | exact ⟨p1, p2⟩ | exact ⟨q1, q2⟩)
                clear hK K
                try simp only [Act.put, List.setIfInBounds_toArray, List.set_cons_zero, List.set_cons_succ]
                refine take_at (i := 12) (some 91) (v := ?_) rfl rfl (by kernel_rfl) (by kernel_rfl) (by kernel_rfl) (fun _ _ _ h => h) (Or.inl ⟨by rfl, ?_⟩) (by assumption) ?_
                rotate_left
                · (intro wx hSw; go_simp; try (with_reducible rfl))
                try simp only [Act.put, List.setIfInBounds_toArray, List.set_cons_zero, List.set_cons_succ]
                refine wpAnyH_done (by kernel_rfl) ?_ _
                go_wp2_with fail
                go_meet
                exact ⟨L1, bS t n sf, rfl, Lib.hid (h4.ymono fun i h => h.elim)⟩
              · by_cases e4 : κ = 4
                · subst e4
                  clear e1 e2 e3
                  go_wp2_with fail
                  refine HP1.out.xsync.mono ?_
                  rintro e w3 ⟨rfl, h3, k3⟩
                  obtain ⟨N, hS, hBy⟩ := h3.safe_
                  obtain ⟨bs, hBy⟩ := hBy w3 (Chg.refl _ w3)
                  have HS := Lib.hid hS
                  have HBy := Lib.hid hBy
                  have H3 := Lib.hid h3
                  clear hS hBy h3 d1 d2
                  go_wp2_with fail
                  (with_reducible refine HS.out.mono ?_)
                  rintro e w4 ⟨rfl, rfl⟩
                  go_wp2_with fail
                  (with_reducible refine HBy.out.mono ?_)
                  rintro e w5 ⟨o5, A5, c5, rfl, -, -, k5⟩
                  go_wp2_with fail
                  go_meet
                  exact ⟨L1, t, rfl, Lib.hid ((((H3.out.unsafe_).keep k5).more (by omega)).ymono fun i h => h.elim)⟩
                · have i1 : (κ == 1) = false := beq_eq_false_iff_ne.2 e1
                  have i2 : (κ == 2) = false := beq_eq_false_iff_ne.2 e2
                  have i3 : (κ == 3) = false := beq_eq_false_iff_ne.2 e3
                  have i4 : (κ == 4) = false := beq_eq_false_iff_ne.2 e4
                  go_wp2_with fail
                  refine HP1.out.xopen.mono ?_
                  rintro e w3 ⟨L3, rfl, h3, k3⟩
                  have H3 := Lib.hid h3
                  clear h3 d1 d2
                  go_wp2_with fail
                  go_meet
                  exact ⟨L3, t, rfl, Lib.hid ((H3.out.more (by omega)).ymono fun i h => h.elim)⟩
        case rest =>
          obtain ⟨L', t', rfl, H5⟩ := hcut
          obtain ⟨w5, rfl⟩ : ∃ x : World, x = wc := ⟨_, rfl⟩
          have HAL := Lib.hid H5.out.alike
          clear d0 d1 d2
          go_wp2_with fail
          (with_reducible refine HAL.out.mono ?_)
          rintro e w6 ⟨bb, rfl, hbb, k6⟩
          have hbt : bb = true := hbb.2 rfl
          subst hbt
          have H6 := Lib.hid (H5.out.keep k6)
          clear hbb k6
          go_wp2_with fail
          go_roundw
          case rel => exact ⟨k + 1, L', t', by go_num, rfl, by omega, by omega, H6⟩
          case measure => simp [intOf]; omega
      · have hcase : ¬ k < n0 ∨ (k < n0 ∧ ¬ k < 60) := by omega
        clear hrun
        have HA0 := Lib.hid HP.out.base.1
        clear HP
        rcases hcase with hIn | ⟨hIn, hI8⟩
        all_goals
          go_wp2_with fail
          go_meet
          exact ⟨k, rfl, HA0⟩
  case rest =>
    obtain ⟨k0, rfl, HT⟩ := hcut
    obtain ⟨w2, rfl⟩ : ∃ x : World, x = wc := ⟨_, rfl⟩
    go_wp2_with fail
    refine (known_calls _).mono ?_
    rintro e w3 ⟨rfl, k3⟩
    go_wp2_with fail
    go_ret
    exact ⟨rfl, (HT.out.trans k3 (fun _ _ h => h.elim)).new fun k hk h => by have := HW.out; omega⟩
end Go.Proofs.Ytlnjadnddldjeaa
