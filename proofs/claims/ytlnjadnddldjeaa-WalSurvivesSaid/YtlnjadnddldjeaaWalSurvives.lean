/-
  WalSurvives: behind a crash a log is what it was at some time, not ahead of the last Sync or Base, and not behind the crash; again and again: the walk through the law.
-/
import Derived.Test.YtlnjadnddldjeaaPlay4
namespace Go.Proofs.Ytlnjadnddldjeaa
open Go.RowKit
set_option linter.unusedVariables false
set_option linter.unusedSimpArgs false

/-- how far the search for the state has come -/
def SeenAt (F : Int) (m : Nat) (sts : List LSt) (t : LSt) : Prop := (F = -1 ∧ ∀ j, j < m → sts[j]? ≠ some t) ∨ ∃ f : Nat, F = (f : Int) ∧ f < m ∧ sts[f]? = some t
theorem SeenAt.yes {F : Int} {m : Nat} {sts : List LSt} {t : LSt} (h : SeenAt F m sts t) (hs : sts[m]? = some t) : SeenAt (m : Int) (m + 1) sts t := .inr ⟨m, rfl, by omega, hs⟩
theorem SeenAt.no {F : Int} {m : Nat} {sts : List LSt} {t x : LSt} (h : SeenAt F m sts t) (hs : sts[m]? = some x) (hx : ¬ t = x) : SeenAt F (m + 1) sts t := by
  rcases h with ⟨h1, h2⟩ | ⟨f, h1, h2, h3⟩
  · refine .inl ⟨h1, fun j hj e => ?_⟩
    by_cases hjm : j = m
    · subst hjm
      rw [hs] at e
      injection e with e
      exact hx e.symm
    · exact h2 j (by omega) e
  · exact .inr ⟨f, h1, by omega, h3⟩
theorem SeenAt.done {F : Int} {m : Nat} {sts : List LSt} {t : LSt} (h : SeenAt F m sts t) (hm : sts.length ≤ m) (ht : t ∈ sts) : ∃ f : Nat, F = (f : Int) ∧ f < m ∧ sts[f]? = some t := by
  rcases h with ⟨h1, h2⟩ | h
  · obtain ⟨j, hj⟩ := List.getElem?_of_mem ht
    exact absurd hj (h2 j (by have := (List.getElem?_eq_some_iff.1 hj).1; omega))
  · exact h
theorem SeenAt.bnd {F : Int} {m : Nat} {sts : List LSt} {t : LSt} (h : SeenAt F m sts t) : -1 ≤ F ∧ F < (m : Int) + 1 := by
  rcases h with ⟨h1, _⟩ | ⟨f, h1, h2, _⟩ <;> omega

theorem Play3.more {W D R k L : Nat} {Z Y : Nat → Prop} {w0 w : World} {tx ty : LSt} {sts : List LSt} (h : Play3 W D R Z Y w0 k L tx ty sts w) (hk : k < 200) : Play3 W D R Z Y w0 (k + 1) L tx ty sts w := by
  obtain ⟨V, U, es, safe, h1, h2, h3, h4, h5, h5y, h6, h7, h8, h9, h10, h11, h12, h13, h14, ⟨h15, h16⟩⟩ := h
  exact ⟨V, U, es, safe, h1, h2, h3, h4, h5, h5y, h6, by omega, by omega, h9, h10, by omega, by omega, h13, by omega, h15, fun x hx => (h16 x hx).more⟩

set_option maxRecDepth 100000 in
set_option maxHeartbeats 8000000 in
theorem survives_walk {w : World} {A0 : Option Addr} {n0 c0 : Nat} (ha0 : WAsksArg w A0 n0 c0) :
    Calls Try.prog 7 #[.slice A0 n0 c0] w (Known21 w) := by
  obtain ⟨hc0, hm0, hall⟩ := ha0
  have HALL := Lib.hid hall
  obtain ⟨W, hW⟩ : ∃ W, w.heap.size = W := ⟨_, rfl⟩
  have HW := Lib.hid hW
  have HF := Lib.hid (fresh_calls (fun k => W ≤ k) w (fun k hk => by omega))
  clear hall hW
  go_enter Try.func7, Try.ntmps7
  go_wp2_with fail
  (with_reducible refine HF.out.mono ?_)
  rintro e w1 ⟨L, D, rfl, h1, k1⟩
  have z1 := k1.size
  go_wp2_with fail
  refine (RNew_calls w1).mono ?_
  rintro e w2 ⟨rfl, h2, k2⟩
  obtain ⟨R, hR⟩ : ∃ R, w1.heap.size = R := ⟨_, rfl⟩
  rw [hR] at h2 ⊢
  have z2 := k2.size
  have hP : Play3 W D R none21 none21 w 0 L init21 init21 [init21] w2 := by
    have hw := HW.out
    have hr2 := (h2 (fun i => i = R) rfl).lt
    exact ⟨fun i => W ≤ i ∧ i < w1.heap.size, fun i => i = R, [], 0, (h1.mono fun i hi hv => ⟨hv, hi⟩).keep k2, h2 _ rfl, fun i hi => ⟨hi.1, by omega, fun e => by omega, fun h => h, fun h => h⟩, fun i hi => ⟨by omega, by omega, fun h => h⟩, fun i hi => hi.elim, fun i hi => hi.elim, k1.trans k2 (fun _ _ h => h.elim), by rw [eb_nil]; decide, by decide, by decide, (fun s hs => by cases hs), by decide, by decide, by omega, by decide, Good.all (k := 0) (es := []) rfl ⟨by decide, by decide, (fun s hs => by cases hs), by decide⟩⟩
  have HP := Lib.hid hP.copy
  clear h1 k1 z1 h2 k2 z2 hR hP
  go_wp2_with fail
  (with_reducible refine HP.out.mono ?_)
  rintro e w3 ⟨rfl, ⟨Z3, -, hP3, hC3⟩, k3, hlt3⟩
  have hSA : SurvAt W D w 0 L R (some ⟨w3.heap.size, 0, none⟩) 1 1 (w3.alloc (.cells #[.pointer (some ⟨w2.heap.size, 0, none⟩)] 51)) := by
    have ka : Chg (fun _ => False) w3 (w3.alloc (.cells #[.pointer (some ⟨w2.heap.size, 0, none⟩)] 51)) := (Chg.refl (fun _ => False) w3).alloc _
    exact ⟨Z3, _, init21, [init21], hP3.addY ka (by simp), some w3.heap.size, [w2.heap.size], Own.fresh w3 [.pointer (some ⟨w2.heap.size, 0, none⟩)] 51 (by simp), (fun g hg => by injection hg with hg; exact .inr hg.symm), rfl, fun j p t hp ht => by
      have hj : j = 0 := by have := (List.getElem?_eq_some_iff.1 hp).1; simp at this; omega
      subst hj
      cases hp
      cases ht
      exact hC3.keep ka⟩
  have HSA := Lib.hid hSA
  clear hP3 hC3 k3 hlt3 HP hSA
  go_upto_block 0 with fail
  go_cut [8] (fun i wx => ∃ k : Nat, i = .int .i64 (k : Int) ∧ Hid (Chg (fun k => W ≤ k) w wx))
  case first =>
    go_wp2_with fail
    go_loopw [8, 4, 6, 7] (fun i x r st wr => ∃ (k L R : Nat) (A : Option Addr) (n c : Nat), i = .int .i64 (k : Int) ∧ x = .pointer (some ⟨L, 0, none⟩) ∧ r = .pointer (some ⟨R, 0, none⟩) ∧ st = .slice A n c ∧ k ≤ n0 ∧ k ≤ 60 ∧ n ≤ k + 1 ∧ Hid (SurvAt W D w k L R A n c wr)) (fun i _ _ _ _ => n0 - (intOf i).toNat)
    case atStart => exact ⟨0, L, R, _, 1, 1, rfl, rfl, rfl, rfl, Nat.zero_le _, Nat.zero_le _, by omega, HSA⟩
    case round =>
      clear HSA
      obtain ⟨k, L1, R1, A, m, c, rfl, rfl, rfl, rfl, hk1, hk2, hmk, HP⟩ := hrel
      obtain ⟨w0, rfl⟩ : ∃ x : World, x = wr := ⟨_, rfl⟩
      obtain ⟨Z, Y, t, sts, hP, hS⟩ := HP.out
      have hbase := hP.base
      by_cases hrun : k < n0 ∧ k < 60
      · obtain ⟨hlt, h60⟩ := hrun
        obtain ⟨b, off, hA, hb, hat⟩ := HALL.out (by omega)
        subst hA
        have hbW : ¬ W ≤ b := by have := HW.out; omega
        obtain ⟨κ, n, s, q0, q1, q2, bκ, bn, bs⟩ := hat k hlt
        have q0 := hbase.1.cell q0 hbW
        have q1 := hbase.1.cell q1 hbW
        have q2 := hbase.1.cell q2 hbW
        obtain ⟨B, hB⟩ : ∃ B, w0.heap.size = B := ⟨_, rfl⟩
        have hkn : (k : Int) < (n0 : Int) := by omega
        have hha : (w0.alloc (.cells #[.int .i64 κ, .int .i64 n, .string s] 55)).heap[B]? = some (.cells #[.int .i64 κ, .int .i64 n, .string s] 55 (0, 0)) := by rw [← hB]; exact heap_alloc_new w0 _
        have f2 := (three_cells hha).2 2
        have HB := Lib.hid hB
        obtain ⟨sf, hsf⟩ : ∃ sf, few21 s = sf := ⟨_, rfl⟩
        have hsz : sf.size ≤ 100 := by rw [← hsf]; exact few21_size s
        have hfew := few_calls (w0.alloc (.cells #[.int .i64 κ, .int .i64 n, .string s] 55)) s
        rw [hsf] at hfew
        have HFEW := Lib.hid hfew
        have HSZ := Lib.hid hsz
        have HPP := Lib.hid hP
        have HSS := Lib.hid hS
        clear hat hB hha hsf hfew hsz hbase hP hS HP
        go_wp2_with fail
        (with_reducible refine HFEW.out.mono ?_)
        rintro e w2 ⟨rfl, rfl⟩
        have hBw := HB.out
        rw [hBw]
        go_upto_block 2 with fail
        have ka : Chg (fun _ => False) w0 (w0.alloc (.cells #[.int .i64 κ, .int .i64 n, .string sf] 55)) := (Chg.refl (fun _ => False) w0).alloc _
        have hP1 := HPP.out.addY ka (by simp)
        have hS1 := (HSS.out.keep ka).mono (Z' := Z) (Y' := fun i => Y i ∨ i = w0.heap.size) (fun i h => h) (fun i h => .inl h)
        have hh1 : (w0.alloc (.cells #[.int .i64 κ, .int .i64 n, .string sf] 55)).heap[B]? = some (.cells #[.int .i64 κ, .int .i64 n, .string sf] 55 (0, 0)) := by rw [← HB.out]; exact heap_alloc_new w0 _
        rw [HB.out] at hP1 hS1
        obtain ⟨wB, hwB⟩ : ∃ wB, w0.alloc (.cells #[.int .i64 κ, .int .i64 n, .string sf] 55) = wB := ⟨_, rfl⟩
        rw [hwB] at hh1 hP1 hS1 ⊢
        obtain ⟨⟨d0, d1, d2⟩, -⟩ := three_cells hh1
        obtain ⟨Y1, hY1⟩ : ∃ Y1 : Nat → Prop, (fun i => Y i ∨ i = B) = Y1 := ⟨_, rfl⟩
        have hYB : Y1 B := by rw [← hY1]; exact .inr rfl
        rw [hY1] at hP1 hS1
        have HP1 := Lib.hid hP1
        have HS1 := Lib.hid hS1
        have HYB := Lib.hid hYB
        clear hwB f2 hh1 hP1 hS1 HFEW q0 q1 q2 hBw ka hY1 hYB HPP HSS HB
        go_cut [4, 6, 7] (fun x r st wx => ∃ (L' R' : Nat) (A' : Option Addr) (m' c' : Nat), x = .pointer (some ⟨L', 0, none⟩) ∧ r = .pointer (some ⟨R', 0, none⟩) ∧ st = .slice A' m' c' ∧ m' ≤ k + 1 ∧ Hid (SurvMid W D w (k + 1) L' R' A' m' c' wx))
        case first =>
          obtain ⟨g1, g2, g3, -, -, -, -⟩ := HP1.out.facts
          clear d0
          obtain ⟨F, hF⟩ : ∃ F : Int, (t.f : Int) = F := ⟨_, rfl⟩
          obtain ⟨NN, hNN⟩ : ∃ NN : Int, ((t.f + t.rs.length : Nat) : Int) = NN := ⟨_, rfl⟩
          have b1 : 0 ≤ F := by omega
          have b2 : F ≤ 2000 := by omega
          have b3 : 0 ≤ NN - F := by omega
          have b4 : NN - F ≤ 1000 := by omega
          have HFI : Hid (∀ w', Chg (fun _ => False) wB w' → Calls Try.prog 21 #[.pointer (some ⟨L1, 0, none⟩)] w' (fun e w'' => e = .returned (.int .i64 F) ∧ w' = w'')) := Lib.hid fun w' hc => by
            rw [← hF]; exact (HP1.out.keep hc).first
          have HNX : Hid (∀ w', Chg (fun _ => False) wB w' → Calls Try.prog 15 #[.pointer (some ⟨L1, 0, none⟩)] w' (Told (.int .i64 NN) w')) := Lib.hid fun w' hc => by
            rw [← hNN]; exact (HP1.out.keep hc).next
          have HFF := Lib.hid hF
          have HNNN := Lib.hid hNN
          clear hF hNN
          by_cases e1 : κ = 1
          · subst e1
            have v1 : IntKind.i64.wrap (NN - F) = NN - F := IntWalk.i64_in _ (by omega)
            go_wp2_with fail
            refine wp_region_held_drew (S := fun wx => wx.cell? ⟨B, 1, none⟩ = some (.int .i64 n)) (by kernel_rfl) d1 (fun hHeld => ?_)
            refine take_at (i := 0) (some 87) (v := ?_) rfl rfl (by kernel_rfl) (by kernel_rfl) (by kernel_rfl) (fun _ _ _ h => h) (Or.inl ⟨by rfl, ?_⟩) (by assumption) ?_
            rotate_left
            · (intro wx hSw; go_simp; try (with_reducible rfl))
            try simp only [Act.put, List.setIfInBounds_toArray, List.set_cons_zero, List.set_cons_succ]
            refine take_at (i := 2) (some 89) (v := ?_) rfl rfl (by kernel_rfl) (by kernel_rfl) (by kernel_rfl) (fun _ _ _ h => h) (Or.inl ⟨by rfl, ?_⟩) (by assumption) ?_
            rotate_left
            · (intro wx hSw; go_simp; try (with_reducible rfl))
            try simp only [Act.put, List.setIfInBounds_toArray, List.set_cons_zero, List.set_cons_succ]
            refine take_at (i := 3) (some 90) (v := ?_) rfl rfl (by kernel_rfl) (by kernel_rfl) (by kernel_rfl) (fun _ _ _ h => h) (Or.inl ⟨by rfl, ?_⟩) (by assumption) ?_
            rotate_left
            · (intro wx hSw; go_simp; try (with_reducible rfl))
            try simp only [Act.put, List.setIfInBounds_toArray, List.set_cons_zero, List.set_cons_succ]
            refine take_at (i := 4) (some 91) (v := ?_) rfl rfl (by kernel_rfl) (by kernel_rfl) (by kernel_rfl) (fun _ _ _ h => h) (Or.inl ⟨by rfl, ?_⟩) (by assumption) ?_
            rotate_left
            · (intro wx hSw; go_simp; try (with_reducible rfl))
            try simp only [Act.put, List.setIfInBounds_toArray, List.set_cons_zero, List.set_cons_succ]
            refine take_at (i := 6) (some 93) (v := ?_) rfl rfl (by kernel_rfl) (by kernel_rfl) (by kernel_rfl) (fun _ _ _ h => h) (Or.inl ⟨by rfl, ?_⟩) (by assumption) ?_
            rotate_left
            · (intro wx hSw; go_simp; try (with_reducible rfl))
            try simp only [Act.put, List.setIfInBounds_toArray, List.set_cons_zero, List.set_cons_succ]
            refine wpAnyH_ready (rs := [1]) (by kernel_rfl) (by simp) ?_
            refine AllReadyH.cons rfl (fun K hK => ?_) AllReadyH.nil
            go_simp
            refine (HFI.out _ (by first | exact (Chg.refl (fun _ => False) wB).drew | exact (Chg.refl (fun _ => False) wB).drewN _ | exact ((Chg.refl (fun _ => False) wB).drew).drewN _)).mono ?_
            rintro e w3 ⟨rfl, rfl⟩
            go_wp2_with fail
            refine hK.out _ _ ?_ (fun hHeld => ?_)
            · (exact d1)
            clear hK K
            try simp only [Act.put, List.setIfInBounds_toArray, List.set_cons_zero, List.set_cons_succ]
            refine wpAnyH_ready (rs := [5]) (by kernel_rfl) (by simp) ?_
            refine AllReadyH.cons rfl (fun K hK => ?_) AllReadyH.nil
            go_simp
            refine (HNX.out _ (by first | exact (Chg.refl (fun _ => False) wB).drew | exact (Chg.refl (fun _ => False) wB).drewN _ | exact ((Chg.refl (fun _ => False) wB).drew).drewN _)).mono ?_
            rintro e w3 ⟨rfl, q3, rfl⟩
            go_wp2_with fail
            refine hK.out _ _ ?_ (fun hHeld => ?_)
            · (exact d1)
            clear hK K
            try simp only [Act.put, List.setIfInBounds_toArray, List.set_cons_zero, List.set_cons_succ]
            refine wpAnyH_ready (rs := [7]) (by kernel_rfl) (by simp) ?_
            refine AllReadyH.cons rfl (fun K hK => ?_) AllReadyH.nil
            go_simp
            refine (HFI.out _ (by first | exact (Chg.refl (fun _ => False) wB).drew | exact (Chg.refl (fun _ => False) wB).drewN _ | exact ((Chg.refl (fun _ => False) wB).drew).drewN _)).mono ?_
            rintro e w3 ⟨rfl, rfl⟩
            go_wp2_with fail
            refine hK.out _ _ ?_ (fun hHeld => ?_)
            · (exact d1)
            clear hK K
            try simp only [Act.put, List.setIfInBounds_toArray, List.set_cons_zero, List.set_cons_succ]
            refine take_at (i := 8) (some 95) (v := ?_) rfl rfl (by kernel_rfl) (by kernel_rfl) (by kernel_rfl) (fun _ _ _ h => h) (Or.inl ⟨by rfl, ?_⟩) (by assumption) ?_
            rotate_left
            · (intro wx hSw; go_simp; try (with_reducible rfl))
            try simp only [Act.put, List.setIfInBounds_toArray, List.set_cons_zero, List.set_cons_succ]
            refine wpAnyH_ready (rs := [9]) (by kernel_rfl) (by simp) ?_
            refine AllReadyH.cons rfl (fun K hK => ?_) AllReadyH.nil
            go_simp
            refine (Within_calls n (NN - F) _ b3 (by omega) bn.1 bn.2).mono ?_
            rintro e w4 ⟨r, hr, rfl, rfl⟩
            have v2 : IntKind.i64.wrap (F + (r : Int)) = F + (r : Int) := IntWalk.i64_in _ (by omega)
            go_wp2_with fail
            refine hK.out _ _ ?_ (fun hHeld => ?_)
            · (exact d1)
            clear hK K
            try simp only [Act.put, List.setIfInBounds_toArray, List.set_cons_zero, List.set_cons_succ]
            refine take_at (i := 10) (some 97) (v := ?_) rfl rfl (by kernel_rfl) (by kernel_rfl) (by kernel_rfl) (fun _ _ _ h => h) (Or.inl ⟨by rfl, ?_⟩) (by assumption) ?_
            rotate_left
            · (intro wx hSw; go_simp; try (with_reducible rfl))
            try simp only [Act.put, List.setIfInBounds_toArray, List.set_cons_zero, List.set_cons_succ]
            refine take_at (i := 11) (some 10) (v := ?_) rfl rfl (by kernel_rfl) (by kernel_rfl) (by kernel_rfl) (fun _ _ _ h => h) (Or.inl ⟨by rfl, ?_⟩) (by assumption) ?_
            rotate_left
            · (intro wx hSw; go_simp; try (with_reducible rfl))
            try simp only [Act.put, List.setIfInBounds_toArray, List.set_cons_zero, List.set_cons_succ]
            refine wpAnyH_done (by kernel_rfl) ?_ _
            clear v1 v2
            go_wp2_with fail
            obtain ⟨w5, hw5⟩ : ∃ x, wB.drewN (1 + q3) = x := ⟨_, rfl⟩
            have k5 : Chg (fun _ => False) wB w5 := by rw [← hw5]; exact (Chg.refl (fun _ => False) wB).drewN _
            have HPU := Lib.hid ((HP1.out.keep k5).xput (n := t.f + r) (m := F + (r : Int)) (by have := HFF.out; omega) (by omega) (by have := HFF.out; have := HNNN.out; omega) sf HSZ.out (by omega))
            have d1' := k5.cell d1 (fun h => h)
            have d2' := k5.cell d2 (fun h => h)
            have HS5 := Lib.hid (HS1.out.keep k5)
            have hr2 : r ≤ t.rs.length := by have := HFF.out; have := HNNN.out; omega
            rw [hw5]
            clear hw5 d1 d2 k5
            go_wp2_with fail
            (with_reducible refine HPU.out.mono ?_)
            rintro e w6 ⟨rfl, h6, k6⟩
            have d1 := k6.cell (p := ⟨B, 1, none⟩) d1' (fun h => h.2.2 HYB.out)
            have d2 := k6.cell (p := ⟨B, 2, none⟩) d2' (fun h => h.2.2 HYB.out)
            have HS6 := Lib.hid (HS5.out.chg k6)
            have HRP := Lib.hid (h6.rput (n := t.f + r) (m := F + (r : Int)) (by have := HFF.out; omega) (by omega) (by omega) (by omega) sf HSZ.out (by have := putS_len (t := t) (n := t.f + r) (s := sf); omega))
            clear d1' d2' h6 k6 HS5
            go_wp2_with fail
            (with_reducible refine HRP.out.mono ?_)
            rintro e w7 ⟨rfl, h7, k7⟩
            go_wp2_with fail
            go_meet
            exact ⟨L1, R1, A, m, c, rfl, rfl, rfl, by omega, Lib.hid ⟨Z, Y1, _, sts, h7, HS6.out.chg k7⟩⟩
          · by_cases e2 : κ = 2
            · subst e2
              clear e1
              have HMU := Lib.hid (HP1.out.xmeta sf HSZ.out (by omega))
              go_wp2_with fail
              (with_reducible refine HMU.out.mono ?_)
              rintro e w6 ⟨rfl, h6, k6⟩
              have d1' := k6.cell (p := ⟨B, 1, none⟩) d1 (fun h => h.2.2 HYB.out)
              have d2' := k6.cell (p := ⟨B, 2, none⟩) d2 (fun h => h.2.2 HYB.out)
              have HS6 := Lib.hid (HS1.out.chg k6)
              have HRP := Lib.hid (h6.rmeta sf HSZ.out)
              clear d1 d2 h6 k6
              go_wp2_with fail
              (with_reducible refine HRP.out.mono ?_)
              rintro e w7 ⟨rfl, h7, k7⟩
              go_wp2_with fail
              go_meet
              exact ⟨L1, R1, A, m, c, rfl, rfl, rfl, by omega, Lib.hid ⟨Z, Y1, _, sts, h7, HS6.out.chg k7⟩⟩
            · by_cases e3 : κ = 3
              · subst e3
                clear e1 e2
                go_wp2_with fail
                refine wp_region_held_drew (S := fun wx => wx.cell? ⟨B, 1, none⟩ = some (.int .i64 n)) (by kernel_rfl) d1 (fun hHeld => ?_)
                refine take_at (i := 0) (some 120) (v := ?_) rfl rfl (by kernel_rfl) (by kernel_rfl) (by kernel_rfl) (fun _ _ _ h => h) (Or.inl ⟨by rfl, ?_⟩) (by assumption) ?_
                rotate_left
                · (intro wx hSw; go_simp; try (with_reducible rfl))
                try simp only [Act.put, List.setIfInBounds_toArray, List.set_cons_zero, List.set_cons_succ]
                refine take_at (i := 2) (some 122) (v := ?_) rfl rfl (by kernel_rfl) (by kernel_rfl) (by kernel_rfl) (fun _ _ _ h => h) (Or.inl ⟨by rfl, ?_⟩) (by assumption) ?_
                rotate_left
                · (intro wx hSw; go_simp; try (with_reducible rfl))
                try simp only [Act.put, List.setIfInBounds_toArray, List.set_cons_zero, List.set_cons_succ]
                refine take_at (i := 3) (some 123) (v := ?_) rfl rfl (by kernel_rfl) (by kernel_rfl) (by kernel_rfl) (fun _ _ _ h => h) (Or.inl ⟨by rfl, ?_⟩) (by assumption) ?_
                rotate_left
                · (intro wx hSw; go_simp; try (with_reducible rfl))
                try simp only [Act.put, List.setIfInBounds_toArray, List.set_cons_zero, List.set_cons_succ]
                refine wpAnyH_ready (rs := [1]) (by kernel_rfl) (by simp) ?_
                refine AllReadyH.cons rfl (fun K hK => ?_) AllReadyH.nil
                go_simp
                refine (HFI.out _ (by first | exact (Chg.refl (fun _ => False) wB).drew | exact (Chg.refl (fun _ => False) wB).drewN _ | exact ((Chg.refl (fun _ => False) wB).drew).drewN _)).mono ?_
                rintro e w3 ⟨rfl, rfl⟩
                go_wp2_with fail
                refine hK.out _ _ ?_ (fun hHeld => ?_)
                · (exact d1)
                clear hK K
                try simp only [Act.put, List.setIfInBounds_toArray, List.set_cons_zero, List.set_cons_succ]
                refine wpAnyH_ready (rs := [4]) (by kernel_rfl) (by simp) ?_
                refine AllReadyH.cons rfl (fun K hK => ?_) AllReadyH.nil
                go_simp
                refine (Within_calls n 6 _ (by decide) (by decide) bn.1 bn.2).mono ?_
                rintro e w4 ⟨r, hr, rfl, rfl⟩
                have v2 : IntKind.i64.wrap (F + (r : Int)) = F + (r : Int) := IntWalk.i64_in _ (by omega)
                go_wp2_with fail
                refine hK.out _ _ ?_ (fun hHeld => ?_)
                · (exact d1)
                clear hK K
                try simp only [Act.put, List.setIfInBounds_toArray, List.set_cons_zero, List.set_cons_succ]
                refine take_at (i := 5) (some 125) (v := ?_) rfl rfl (by kernel_rfl) (by kernel_rfl) (by kernel_rfl) (fun _ _ _ h => h) (Or.inl ⟨by rfl, ?_⟩) (by assumption) ?_
                rotate_left
                · (intro wx hSw; go_simp; try (with_reducible rfl))
                try simp only [Act.put, List.setIfInBounds_toArray, List.set_cons_zero, List.set_cons_succ]
                refine take_at (i := 6) (some 11) (v := ?_) rfl rfl (by kernel_rfl) (by kernel_rfl) (by kernel_rfl) (fun _ _ _ h => h) (Or.inl ⟨by rfl, ?_⟩) (by assumption) ?_
                rotate_left
                · (intro wx hSw; go_simp; try (with_reducible rfl))
                try simp only [Act.put, List.setIfInBounds_toArray, List.set_cons_zero, List.set_cons_succ]
                refine wpAnyH_done (by kernel_rfl) ?_ _
                clear v2
                go_wp2_with fail
                obtain ⟨w5, hw5⟩ : ∃ x, wB.drew = x := ⟨_, rfl⟩
                have k5 : Chg (fun _ => False) wB w5 := by rw [← hw5]; exact (Chg.refl (fun _ => False) wB).drew
                have HPU := Lib.hid ((HP1.out.keep k5).xbase (n := t.f + r) (m := F + (r : Int)) (by have := HFF.out; omega) (by omega) (by omega) sf HSZ.out (by omega))
                have d1' := k5.cell d1 (fun h => h)
                have d2' := k5.cell d2 (fun h => h)
                rw [hw5]
                clear hw5 d1 d2 k5
                go_wp2_with fail
                (with_reducible refine HPU.out.mono ?_)
                rintro e w6 ⟨rfl, h6, k6⟩
                have d1 := k6.cell (p := ⟨B, 1, none⟩) d1' (fun h => h.2.2 HYB.out)
                have d2 := k6.cell (p := ⟨B, 2, none⟩) d2' (fun h => h.2.2 HYB.out)
                have HRP := Lib.hid (h6.rbase (n := t.f + r) (m := F + (r : Int)) (by have := HFF.out; omega) (by omega) (by omega) sf HSZ.out)
                clear d1' d2' h6 k6
                go_wp2_with fail
                (with_reducible refine HRP.out.mono ?_)
                rintro e w7 ⟨rfl, h7, k7⟩
                go_wp2_with fail
                go_meet
                exact ⟨L1, R1, none, 0, 0, rfl, rfl, rfl, by omega, Lib.hid ⟨Z, Y1, _, [], h7, StatesAt.nil_ _ _ _⟩⟩
              · by_cases e4 : κ = 4
                · subst e4
                  clear e1 e2 e3
                  have HSY := Lib.hid HP1.out.xsync
                  go_wp2_with fail
                  (with_reducible refine HSY.out.mono ?_)
                  rintro e w6 ⟨rfl, h6, k6⟩
                  go_wp2_with fail
                  go_meet
                  exact ⟨L1, R1, none, 0, 0, rfl, rfl, rfl, by omega, Lib.hid ⟨Z, Y1, t, [], h6.more (by omega), StatesAt.nil_ _ _ _⟩⟩
                · have i1 : (κ == 1) = false := beq_eq_false_iff_ne.2 e1
                  have i2 : (κ == 2) = false := beq_eq_false_iff_ne.2 e2
                  have i3 : (κ == 3) = false := beq_eq_false_iff_ne.2 e3
                  have i4 : (κ == 4) = false := beq_eq_false_iff_ne.2 e4
                  have HCR := Lib.hid (HP1.out.xcrash n)
                  go_wp2_with fail
                  (with_reducible refine HCR.out.mono ?_)
                  rintro e w6 ⟨rfl, h6, k6⟩
                  have HS6 := Lib.hid (HS1.out.chg k6)
                  have HOP := Lib.hid h6.xopen
                  clear h6 k6 d1 d2 i1 i2 i3 i4 e1 e2 e3 e4 HCR
                  go_wp2_with fail
                  (with_reducible refine HOP.out.mono ?_)
                  rintro e w7 ⟨L2, t2, ht2, hT2, rfl, h7, k7⟩
                  have hS7 := HS6.out.chg k7
                  have hlen := hS7.len
                  have HS7 := Lib.hid hS7
                  have HLEN := Lib.hid hlen
                  have H7 := Lib.hid h7
                  have HT2 := Lib.hid ht2
                  have HTK := Lib.hid hT2.1
                  clear k7 HS6 HOP hS7 hlen h7 ht2 hT2
                  go_wp2_with fail
                  go_loopw [14, 15] (fun f i wr => ∃ (F' : Int) (j : Nat), f = .int .i64 F' ∧ i = .int .i64 (j : Int) ∧ j ≤ m ∧ Hid (SeenAt F' j sts t2) ∧ Hid (Chg (fun _ => False) w7 wr)) (fun _ i _ => m - (intOf i).toNat)
                  case atStart => exact ⟨-1, 0, rfl, rfl, Nat.zero_le _, Lib.hid (.inl ⟨rfl, fun j hj => absurd hj (Nat.not_lt_zero j)⟩), Lib.hid (Chg.refl _ w7)⟩
                  case round =>
                    obtain ⟨F', j, rfl, rfl, hjm, HSE, HC⟩ := hrel
                    obtain ⟨w8, rfl⟩ : ∃ x : World, x = wr := ⟨_, rfl⟩
                    by_cases hjl : j < m
                    · obtain ⟨x, hx⟩ : ∃ x, sts[j]? = some x := ⟨_, List.getElem?_eq_getElem (by rw [HLEN.out]; exact hjl)⟩
                      obtain ⟨g, p, hA, hcell, hRp⟩ := (HS7.out.keep HC.out).at_ hx
                      subst hA
                      have HAL := Lib.hid ((H7.out.keep HC.out).alikeTo hRp)
                      have HX := Lib.hid hx
                      have hji : (j : Int) < (m : Int) := by omega
                      clear hx hRp
                      go_wp2_with fail
                      (with_reducible refine HAL.out.mono ?_)
                      rintro e w9 ⟨bb, rfl, hbb, k9⟩
                      have HBB := Lib.hid hbb
                      have HC9 := Lib.hid (HC.out.trans k9 (fun _ _ h => h))
                      clear hbb k9 hcell HAL
                      cases bb
                      · go_wp2_with fail
                        go_roundw
                        case rel => exact ⟨F', j + 1, rfl, by go_num, by omega, Lib.hid (HSE.out.no HX.out (fun e => by have := HBB.out.2 e; cases this)), HC9⟩
                        case measure => simp [intOf]; omega
                      · go_wp2_with fail
                        go_roundw
                        case rel => exact ⟨(j : Int), j + 1, rfl, by go_num, by omega, Lib.hid (HSE.out.yes (by rw [HX.out, HBB.out.1 (by first | rfl | trivial)])), HC9⟩
                        case measure => simp [intOf]; omega
                    · obtain ⟨f, hf1, hf2, hf3⟩ := HSE.out.done (by rw [HLEN.out]; omega) HT2.out
                      subst hf1
                      obtain ⟨g, p, hA, hcell, hRp⟩ := (HS7.out.keep HC.out).at_ hf3
                      subst hA
                      have HBK := Lib.hid ((H7.out.keep HC.out).back hRp HTK.out)
                      have hfi : (f : Int) < (m : Int) := by omega
                      clear hf3 hRp
                      go_wp2_with fail
                      (with_reducible refine HBK.out.mono ?_)
                      rintro e w9 ⟨rfl, h9, k9⟩
                      have HDS := Lib.hid h9.dsync
                      clear h9 k9 hcell HBK
                      go_wp2_with fail
                      (with_reducible refine HDS.out.mono ?_)
                      rintro e w10 ⟨rfl, h10, k10⟩
                      go_wp2_with fail
                      go_meet
                      exact ⟨L2, _, none, 0, 0, rfl, rfl, rfl, by omega, Lib.hid ⟨none21, Y1, t2, [], h10.more (by omega), StatesAt.nil_ _ _ _⟩⟩
        case rest =>
          obtain ⟨L', R', A', m', c', rfl, rfl, rfl, hm', HM⟩ := hcut
          obtain ⟨w5, rfl⟩ : ∃ x : World, x = wc := ⟨_, rfl⟩
          obtain ⟨Z5, Y5, t5, sts5, hP5, hS5⟩ := HM.out
          have HCP := Lib.hid hP5.copy
          have HS5 := Lib.hid hS5
          clear d0 d1 d2 hP5 hS5 HM HP1 HS1 HYB
          go_wp2_with fail
          (with_reducible refine HCP.out.mono ?_)
          rintro e w6 ⟨rfl, ⟨Z6, hz6, hP6, hC6⟩, k6, hlt6⟩
          obtain ⟨C, hC⟩ : ∃ C, w5.heap.size = C := ⟨_, rfl⟩
          rw [hC] at hC6 ⊢
          have ka : Chg (fun _ => False) w6 (w6.alloc (.cells #[.pointer (some ⟨C, 0, none⟩)] 51)) := (Chg.refl (fun _ => False) w6).alloc _
          obtain ⟨own, ps, o1, o2, o3, o4⟩ := ((HS5.out.keep k6).mono (Z' := Z6) (Y' := Y5) hz6 (fun i h => h)).keep ka
          have hsl := (Own.fresh w6 [.pointer (some ⟨C, 0, none⟩)] 51 (by simp)).cs
          have hPa := hP6.keep ka
          have hCa := hC6.keep ka
          have HO4 := Lib.hid o4
          have HO3 := Lib.hid o3
          have HO2 := Lib.hid o2
          have HPA := Lib.hid hPa
          have HCA := Lib.hid hCa
          have HHC := Lib.hid hC
          have ho1 := o1
          have HO1 := Lib.hid o1
          clear o1 o2 o3 o4 hPa hCa hP6 hC6 hlt6 hz6 k6 HCP HS5 hC
          go_wp2_with (at_builtin; refine wpList_append rfl _ _ 53 53 rfl 51 8 ptrsApp own A' m' c' (ps.map fun p => Value.pointer (some ⟨p, 0, none⟩)) [.pointer (some ⟨C, 0, none⟩)] _ rfl rfl ho1 (by exact Src.slice hsl) (by intro u hu; simp at hu; subst hu; rfl) (m' + 1) rfl (by omega) (by omega) ?_)
          intro own' A2 c2 w7 hO7 hor hc7
          have hor' : own' = own ∨ own' = some (w6.alloc (.cells #[.pointer (some ⟨C, 0, none⟩)] 51)).heap.size := by simpa using hor
          have hP7 := HPA.out.grown hc7 HO2.out hor' (fun g hg => hO7.lt hg)
          have hS7 := StatesAt.grow (t := t5) HO1.out HO2.out HO3.out HO4.out HCA.out hO7 hc7 (HPA.out.facts.2.2.2.2.2.2 · · |>.2.2.2)
          have HAL := Lib.hid hP7.alike
          have HP7 := Lib.hid hP7
          have HS7 := Lib.hid hS7
          clear hP7 hS7 hO7 hor hor' hc7 hsl ho1 ka
          go_wp2_with fail
          (with_reducible refine HAL.out.mono ?_)
          rintro e w8 ⟨bb, rfl, hbb, k8⟩
          have hbt : bb = true := hbb.2 rfl
          subst hbt
          have H8 : Hid (SurvAt W D w (k + 1) L' R' A2 (m' + 1) c2 w8) := Lib.hid ⟨Z6, _, t5, _, HP7.out.keep k8, HS7.out.keep k8⟩
          clear hbb k8 HAL
          go_wp2_with fail
          go_roundw
          case rel => exact ⟨k + 1, L', R', A2, m' + 1, c2, by go_num, rfl, rfl, rfl, by omega, by omega, by omega, H8⟩
          case measure => simp [intOf]; omega
      · have hcase : ¬ k < n0 ∨ (k < n0 ∧ ¬ k < 60) := by omega
        clear hrun hP hS
        have HA0 := Lib.hid hbase.1
        clear HP hbase
        rcases hcase with hIn | ⟨hIn, hI8⟩
        all_goals
          go_wp2_with fail
          go_meet
          exact ⟨k, rfl, HA0⟩
  case rest =>
    obtain ⟨k0, rfl, HT⟩ := hcut
    obtain ⟨w2, rfl⟩ : ∃ x : World, x = wc := ⟨_, rfl⟩
    go_wp2_with fail
    refine (known_calls _).mono ?_
    rintro e w3 ⟨rfl, k3⟩
    go_wp2_with fail
    go_ret
    exact ⟨rfl, (HT.out.trans k3 (fun _ _ h => h.elim)).new fun k hk h => by have := HW.out; omega⟩
end Go.Proofs.Ytlnjadnddldjeaa
