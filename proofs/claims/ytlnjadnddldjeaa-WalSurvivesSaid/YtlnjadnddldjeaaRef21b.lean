/-
  The document's log of chapter 21 in memory: contracts of its Base, Get, Copy.
-/
import Derived.Test.YtlnjadnddldjeaaRef21
namespace Go.Proofs.Ytlnjadnddldjeaa
open Go.RowKit
set_option linter.unusedVariables false
set_option linter.unusedSimpArgs false

section
variable {U : Nat → Prop} {w : World} {R : Nat} {t : LSt}
theorem RGet_in (h : RefAt U w R t) {k : Nat} {s : ByteArray} {i : Int} (hi : ((t.f + k : Nat) : Int) = i) (hs : t.rs[k]? = some s) :
    Calls Try.prog 43 #[.pointer (some ⟨R, 0, none⟩), .int .i64 i] w (Told (.tuple #[.string s, .bool true]) w) := by
  have hN := RNext_calls h
  obtain ⟨h1, h2, h3, A, cap, hh, hcs, hg1, hg2⟩ := h
  obtain ⟨⟨c0, c1, c2, c3⟩, hf⟩ := four_cells' hh
  have hk : k < t.rs.length := (List.getElem?_eq_some_iff.1 hs).1
  obtain ⟨b, off, rfl, -, hcell⟩ := hcs.2 (by omega)
  have q := hcell k (.string s) (by simp [sv, hs])
  obtain ⟨N, hNN⟩ : ∃ N : Int, ((t.f + t.rs.length : Nat) : Int) = N := ⟨_, rfl⟩
  rw [hNN] at hN
  have g1 : ¬ i < (t.f : Int) := by omega
  have g2 : ¬ N ≤ i := by omega
  have g3 : i - (t.f : Int) = (k : Int) := by omega
  have g4 : ¬ (k : Int) < 0 := by omega
  have g5 : ¬ (t.rs.length : Int) ≤ (k : Int) := by omega
  have g6 : (k : Int) < (t.rs.length : Int) := by omega
  have HN := Lib.hid hN
  clear hN hNN hcell hh hf hcs hs hi
  go_enter Try.func43, Try.ntmps43
  go_wp2_with fail
  refine HN.out.mono ?_
  rintro e w1 ⟨rfl, q1, rfl⟩
  go_wp2_with fail
  go_quiet (fail)
  go_wp2_with fail
  go_ret2
  exact ⟨rfl, _, by first | exact World.drewN_drewN _ _ _ | (simp; rfl)⟩
theorem RGet_out (h : RefAt U w R t) {i : Int} (hi : i < (t.f : Int) ∨ ((t.f + t.rs.length : Nat) : Int) ≤ i) :
    Calls Try.prog 43 #[.pointer (some ⟨R, 0, none⟩), .int .i64 i] w (Told (.tuple #[.string ⟨#[]⟩, .bool false]) w) := by
  have hN := RNext_calls h
  obtain ⟨h1, h2, h3, A, cap, hh, hcs, hg1, hg2⟩ := h
  obtain ⟨⟨c0, c1, c2, c3⟩, hf⟩ := four_cells' hh
  obtain ⟨N, hNN⟩ : ∃ N : Int, ((t.f + t.rs.length : Nat) : Int) = N := ⟨_, rfl⟩
  rw [hNN] at hN hi
  have HN := Lib.hid hN
  clear hN hNN hh hf hcs h2 h3 hg1 hg2
  by_cases g1 : i < (t.f : Int)
  · clear hi
    go_enter Try.func43, Try.ntmps43
    go_wp2_with fail
    go_ret2
    exact ⟨rfl, 0, rfl⟩
  · have g2 : N ≤ i := by omega
    clear hi
    go_enter Try.func43, Try.ntmps43
    go_wp2_with fail
    refine HN.out.mono ?_
    rintro e w1 ⟨rfl, q1, rfl⟩
    go_wp2_with fail
    go_ret2
    exact ⟨rfl, q1, rfl⟩
theorem RCopy_calls (h : RefAt U w R t) : Calls Try.prog 30 #[.pointer (some ⟨R, 0, none⟩)] w fun e w' => e = .returned (.pointer (some ⟨w.heap.size, 0, none⟩)) ∧ (∀ U2 : Nat → Prop, U2 w.heap.size → (∀ k, k < w.heap.size → U k → k ≠ R → U2 k) → RefAt U2 w' w.heap.size t) ∧ Chg (fun _ => False) w w' ∧ w.heap.size < w'.heap.size := by
  obtain ⟨h1, h2, h3, A, cap, hh, hcs, hg1, hg2⟩ := h
  obtain ⟨⟨c0, c1, c2, c3⟩, hf⟩ := four_cells' hh
  have HCS := Lib.hid hcs
  have H2 := Lib.hid h2
  have H3 := Lib.hid h3
  have hRl := lt_of_block hh
  clear hf hcs hh h2 h3
  go_enter Try.func30, Try.ntmps30
  go_wp2_with fail
  go_ret
  refine ⟨rfl, fun U2 hu1 hu2 => ⟨hu1, H2.out, H3.out, A, cap, ?_, ?_, hg1, hg2⟩, ?_, ?_⟩
  · exact heap_alloc_new w _
  · exact (HCS.out.mono (S' := fun k => U2 k ∧ k ≠ w.heap.size) (fun k hk hs => ⟨hu2 k hk hs.1 hs.2, by omega⟩)).chg ((Chg.refl (fun _ => False) w).alloc _) (fun _ _ _ h => h)
  · exact (Chg.refl (fun _ => False) w).alloc _
  · simp
set_option maxRecDepth 100000 in
set_option maxHeartbeats 2000000 in
theorem RBase_calls (h : RefAt U w R t) (hU : ∀ k, w.heap.size ≤ k → U k) {n : Nat} {s : ByteArray} {m : Int} (hm : (n : Int) = m) (hf : t.f ≤ n) (h30 : n ≤ 1073741824) (hs : s.size ≤ 65536) :
    Calls Try.prog 33 #[.pointer (some ⟨R, 0, none⟩), .int .i64 m, .string s] w fun e w' => e = .returned (.int .i64 0) ∧ RefAt U w' R (baseS t n s) ∧ Chg (fun k => k = R) w w' := by
  have hN := RNext_calls h
  have hlt := h.lt
  obtain ⟨h1, h2, h3, A, cap, hh, hcs, hg1, hg2⟩ := h
  obtain ⟨⟨c0, c1, c2, c3⟩, hff⟩ := four_cells' hh
  obtain ⟨k, hkk⟩ : ∃ k, n - t.f = k := ⟨_, rfl⟩
  obtain ⟨N, hNN⟩ : ∃ N : Int, ((t.f + t.rs.length : Nat) : Int) = N := ⟨_, rfl⟩
  rw [hNN] at hN
  have g1 : ¬ m < (t.f : Int) := by omega
  have g3 : ¬ (1073741824 : Int) < m := by omega
  have g4 : m - (t.f : Int) = (k : Int) := by omega
  have g5 : (0 : Int) ≤ (k : Int) := by omega
  have g7 : ¬ (k : Int) < 0 := by omega
  have gw : IntKind.i64.wrap (k : Int) = (k : Int) := IntWalk.i64_in (k : Int) (by omega)
  have hs' : ¬ (65536 : Int) < (s.size : Int) := by omega
  have hbs : baseS t n s = ⟨n, t.rs.drop k, s, t.note⟩ := by simp only [baseS]; rw [hkk]
  rw [hbs]
  have HN := Lib.hid hN
  have HU := Lib.hid hU
  have HH := Lib.hid hh
  have H3 := Lib.hid h3
  have H30 := Lib.hid h30
  have HM := Lib.hid hm
  by_cases hnN : m ≤ N
  · have hkl : k ≤ t.rs.length := by omega
    have g8 : (k : Int) ≤ (cap : Int) := by omega
    have g9 : (k : Int) ≤ (t.rs.length : Int) := by omega
    have hOd := hcs.drop (k := k) hkl hg1
    rw [sv_drop] at hOd
    obtain ⟨X, hX⟩ : ∃ X, (if cap = k then A else A.map (·.add k)) = X := ⟨_, rfl⟩
    rw [hX] at hOd
    have HX := hX
    have HOD := Lib.hid hOd
    have HKL := Lib.hid hkl
    clear hN hNN hcs hh hU hm hf h30 hs hff h2 h3 hX hOd hbs hkk
    by_cases hck : cap = k
    · rw [if_pos hck] at HX
      subst HX
      have hck := hck.symm
      subst hck
      have hz : t.rs.length - k = 0 := by omega
      have HOD0 := HOD.out
      rw [hz] at HOD0
      have HOD := Lib.hid HOD0
      clear HOD0 hz
      go_enter Try.func33, Try.ntmps33
      go_wp2_with fail
      refine HN.out.mono ?_
      rintro e w1 ⟨rfl, q1, rfl⟩
      obtain ⟨w0, hw0⟩ : ∃ w0, w.drewN q1 = w0 := ⟨_, rfl⟩
      have k0 : Chg (fun _ => False) w w0 := by rw [← hw0]; exact (Chg.refl (fun _ => False) w).drewN q1
      rw [hw0]
      have d0 := k0.cell c0 (fun h => h)
      have d1 := k0.cell c1 (fun h => h)
      have hct0 := HOD.out.chg k0 (fun _ _ _ h => h)
      have HC0 := Lib.hid hct0
      clear hw0 c0 c1 c2 c3 HN hct0
      go_wp2_with fail
      refine wp_region_E_drew [0, 2, 3, 4, 5, 6, 7, 8, 9, 10, 11, 12] (S := fun wx => Chg (fun _ => False) w0 wx) (by kernel_rfl) ((Chg.refl (fun _ => False) w0).drew) (fun hHeld => ?_)
      refine take_atE (i := 0) (some 24) (v := ?_) (by decide) rfl rfl (by kernel_rfl) (by kernel_rfl) (by kernel_rfl) (fun _ _ _ h => h) (Or.inl ⟨by rfl, ?_⟩) (by assumption) ?_
      rotate_left
      · (intro wx hSw; have q0 := hSw.cell d0 (fun h => h); have q1 := hSw.cell d1 (fun h => h); go_simp; try (with_reducible rfl))
      try simp only [Act.put, List.setIfInBounds_toArray, List.set_cons_zero, List.set_cons_succ]
      refine take_atE (i := 2) (some 26) (v := ?_) (by decide) rfl rfl (by kernel_rfl) (by kernel_rfl) (by kernel_rfl) (fun _ _ _ h => h) (Or.inl ⟨by rfl, ?_⟩) (by assumption) ?_
      rotate_left
      · (intro wx hSw; have q0 := hSw.cell d0 (fun h => h); have q1 := hSw.cell d1 (fun h => h); go_simp; try (with_reducible rfl))
      try simp only [Act.put, List.setIfInBounds_toArray, List.set_cons_zero, List.set_cons_succ]
      refine take_atE (i := 3) (some 27) (v := ?_) (by decide) rfl rfl (by kernel_rfl) (by kernel_rfl) (by kernel_rfl) (fun _ _ _ h => h) (Or.inl ⟨by rfl, ?_⟩) (by assumption) ?_
      rotate_left
      · (intro wx hSw; have q0 := hSw.cell d0 (fun h => h); have q1 := hSw.cell d1 (fun h => h); go_simp; try (with_reducible rfl))
      try simp only [Act.put, List.setIfInBounds_toArray, List.set_cons_zero, List.set_cons_succ]
      refine take_atE (i := 4) (some 28) (v := ?_) (by decide) rfl rfl (by kernel_rfl) (by kernel_rfl) (by kernel_rfl) (fun _ _ _ h => h) (Or.inl ⟨by rfl, ?_⟩) (by assumption) ?_
      rotate_left
      · (intro wx hSw; have q0 := hSw.cell d0 (fun h => h); have q1 := hSw.cell d1 (fun h => h); go_simp; try (with_reducible rfl))
      try simp only [Act.put, List.setIfInBounds_toArray, List.set_cons_zero, List.set_cons_succ]
      refine take_atE (i := 5) (some 29) (v := ?_) (by decide) rfl rfl (by kernel_rfl) (by kernel_rfl) (by kernel_rfl) (fun _ _ _ h => h) (Or.inl ⟨by rfl, ?_⟩) (by assumption) ?_
      rotate_left
      · (intro wx hSw; have q0 := hSw.cell d0 (fun h => h); have q1 := hSw.cell d1 (fun h => h); go_simp; try (with_reducible rfl))
      try simp only [Act.put, List.setIfInBounds_toArray, List.set_cons_zero, List.set_cons_succ]
      refine take_atE (i := 6) (some 30) (v := ?_) (by decide) rfl rfl (by kernel_rfl) (by kernel_rfl) (by kernel_rfl) (fun _ _ _ h => h) (Or.inl ⟨by rfl, ?_⟩) (by assumption) ?_
      rotate_left
      · (intro wx hSw; have q0 := hSw.cell d0 (fun h => h); have q1 := hSw.cell d1 (fun h => h); go_simp; try (with_reducible rfl))
      try simp only [Act.put, List.setIfInBounds_toArray, List.set_cons_zero, List.set_cons_succ]
      refine take_atE (i := 7) (some 31) (v := ?_) (by decide) rfl rfl (by kernel_rfl) (by kernel_rfl) (by kernel_rfl) (fun _ _ _ h => h) (Or.inl ⟨by rfl, ?_⟩) (by assumption) ?_
      rotate_left
      · (intro wx hSw; have q0 := hSw.cell d0 (fun h => h); have q1 := hSw.cell d1 (fun h => h); go_simp; try (with_reducible rfl))
      try simp only [Act.put, List.setIfInBounds_toArray, List.set_cons_zero, List.set_cons_succ]
      refine take_atE (i := 8) (some 32) (v := ?_) (by decide) rfl rfl (by kernel_rfl) (by kernel_rfl) (by kernel_rfl) (fun _ _ _ h => h) (Or.inl ⟨by rfl, ?_⟩) (by assumption) ?_
      rotate_left
      · (intro wx hSw; have q0 := hSw.cell d0 (fun h => h); have q1 := hSw.cell d1 (fun h => h); go_simp; try (with_reducible rfl))
      try simp only [Act.put, List.setIfInBounds_toArray, List.set_cons_zero, List.set_cons_succ]
      refine take_atE (i := 9) (some 33) (v := ?_) (by decide) rfl rfl (by kernel_rfl) (by kernel_rfl) (by kernel_rfl) (fun _ _ _ h => h) (Or.inl ⟨by rfl, ?_⟩) (by assumption) ?_
      rotate_left
      · (intro wx hSw; have q0 := hSw.cell d0 (fun h => h); have q1 := hSw.cell d1 (fun h => h); go_simp; try (with_reducible rfl))
      try simp only [Act.put, List.setIfInBounds_toArray, List.set_cons_zero, List.set_cons_succ]
      refine take_atE (i := 10) (some 34) (v := ?_) (by decide) rfl rfl (by kernel_rfl) (by kernel_rfl) (by kernel_rfl) (fun _ _ _ h => h) (Or.inl ⟨by rfl, ?_⟩) (by assumption) ?_
      rotate_left
      · (intro wx hSw; have q0 := hSw.cell d0 (fun h => h); have q1 := hSw.cell d1 (fun h => h); go_simp; try (with_reducible rfl))
      try simp only [Act.put, List.setIfInBounds_toArray, List.set_cons_zero, List.set_cons_succ]
      refine take_atE (i := 11) (some 35) (v := ?_) (by decide) rfl rfl (by kernel_rfl) (by kernel_rfl) (by kernel_rfl) (fun _ _ _ h => h) (Or.inl ⟨by rfl, ?_⟩) (by assumption) ?_
      rotate_left
      · (intro wx hSw; have q0 := hSw.cell d0 (fun h => h); have q1 := hSw.cell d1 (fun h => h); go_simp; try (with_reducible rfl))
      try simp only [Act.put, List.setIfInBounds_toArray, List.set_cons_zero, List.set_cons_succ]
      refine take_atE (i := 12) (some 36) (v := ?_) (by decide) rfl rfl (by kernel_rfl) (by kernel_rfl) (by kernel_rfl) (fun _ _ _ h => h) (Or.inl ⟨by rfl, ?_⟩) (by assumption) ?_
      rotate_left
      · (intro wx hSw; have q0 := hSw.cell d0 (fun h => h); have q1 := hSw.cell d1 (fun h => h); go_simp; try (with_reducible rfl))
      try simp only [Act.put, List.setIfInBounds_toArray, List.set_cons_zero, List.set_cons_succ]
      refine wpAnyE_ready (rs := [1]) (by kernel_rfl) (by simp) ?_
      refine AllReadyE.cons rfl (fun K hK => ?_) AllReadyE.nil
      go_simp
      refine hK.out _ _ ?_ (fun hHeld => ?_)
      · (first | exact hHeld | exact hHeld.alloc _ | exact hS6 | exact hHeld.drew)
      clear hK K
      try simp only [Act.put, List.setIfInBounds_toArray, List.set_cons_zero, List.set_cons_succ]
      refine wpAnyE_ready (rs := [13]) (by kernel_rfl) (by simp) ?_
      refine AllReadyE.cons rfl (fun K hK => ?_) AllReadyE.nil
      refine step_append rfl _ _ 22 22 rfl 9 16 strsApp none _ 0 0 [] (sv (t.rs.drop k)) _ rfl rfl (Own.nil_ _ _ _) (by exact Src.slice (HC0.out.chg hHeld (fun _ _ _ h => h))) (sv_one _) (0) (by rw [sv_length, List.length_drop]; omega) (by have := H3.out; omega) (by have := H3.out; omega) ?_
      intro o6 A6 c6 w6 hO6 hor6 hc6
      go_simp
      rw [List.nil_append] at hO6
      have hS6 : Chg (fun _ => False) w0 w6 := hHeld.trans (hc6.mono (fun _ _ e => by cases e)) (fun _ _ h => h)
      have hn6 : ∀ g, o6 = some g → w0.heap.size ≤ g := fun g hg => by
        have := hHeld.size
        rcases hor6 with h0 | h0
        · rw [h0] at hg; cases hg
        · rw [h0] at hg; injection hg with hg; rw [← hg]; exact this
      have hh6 := hS6.heap (k0.heap HH.out (fun h => h)) (fun h => h)
      obtain ⟨⟨e0, e1, e2, e3⟩, hf6⟩ := four_cells' hh6
      have f1 := hf6 1
      have f0 := hf6 0
      have f2 := hf6 2
      have HH6 := Lib.hid hh6
      clear hf6 hh6
      refine hK.out _ _ ?_ (fun hHeld => ?_)
      · (first | exact hHeld | exact hHeld.alloc _ | exact hS6 | exact hHeld.drew)
      clear hK K
      try simp only [Act.put, List.setIfInBounds_toArray, List.set_cons_zero, List.set_cons_succ]
      refine wpAnyE_ready (rs := [14]) (by kernel_rfl) (by simp) ?_
      refine AllReadyE.consLast rfl (by kernel_rfl) (fun K hK => ?_) AllReadyE.nil
      go_simp
      refine hK.out _ _ ?_
      clear hK K
      try simp only [Act.put, List.setIfInBounds_toArray, List.set_cons_zero, List.set_cons_succ]
      refine wpAnyE_ready (rs := [15]) (by kernel_rfl) (by simp) ?_
      refine AllReadyE.consLast rfl (by kernel_rfl) (fun K hK => ?_) AllReadyE.nil
      go_simp
      refine hK.out _ _ ?_
      clear hK K
      try simp only [Act.put, List.setIfInBounds_toArray, List.set_cons_zero, List.set_cons_succ]
      refine wpAnyE_ready (rs := [16]) (by kernel_rfl) (by simp) ?_
      refine AllReadyE.consLast rfl (by kernel_rfl) (fun K hK => ?_) AllReadyE.nil
      go_simp
      refine hK.out _ _ ?_
      clear hK K
      try simp only [Act.put, List.setIfInBounds_toArray, List.set_cons_zero, List.set_cons_succ]
      refine wpAnyE_done (by kernel_rfl) ?_ _
      go_wp2_with fail
      go_ret
      have k8 : Chg (fun k => k = R) w0 (((w6.setCell ⟨R, 1, none⟩ (.slice A6 (0) c6)).setCell ⟨R, 0, none⟩ (.int .i64 m)).setCell ⟨R, 2, none⟩ (.string s)) := (((Chg.wide (T := fun k => k = R) hS6).setIn rfl _ _).setIn rfl _ _).setIn rfl _ _
      have k9 : Chg (fun k => k = R) w6 (((w6.setCell ⟨R, 1, none⟩ (.slice A6 (0) c6)).setCell ⟨R, 0, none⟩ (.int .i64 m)).setCell ⟨R, 2, none⟩ (.string s)) := (((Chg.refl (fun k => k = R) w6).setIn rfl _ _).setIn rfl _ _).setIn rfl _ _
      have hlen : (t.rs.drop k).length = 0 := by rw [List.length_drop] <;> omega
      have z0 := k0.size
      refine ⟨rfl, ⟨h1, H30.out, by show (t.rs.drop k).length ≤ _; have := H3.out; omega, A6, c6, ?_, ?_, by show (t.rs.drop k).length ≤ _; rw [hlen]; exact hO6.fits, hO6.capMax⟩, k0.wide.trans k8 (fun _ _ h => h)⟩
      · have e1 := (four_set HH6.out (.slice A6 (0) c6)).2.1
        have e2 := (four_set e1 (.int .i64 m)).1
        have e3 := (four_set e2 (.string s)).2.2.1
        show _ = some (Obj.cells #[.int .i64 (n : Int), .slice A6 (t.rs.drop k).length c6, _, _] _ _)
        rw [HM.out, hlen]
        exact e3
      · show Cs _ _ A6 (t.rs.drop k).length (sv (t.rs.drop k))
        rw [hlen]
        exact (hO6.cs.chg k9 (fun i hi e he => by have := hn6 i e; omega)).mono (fun i _ e => ⟨HU.out i (by have := hn6 i e; omega), by have := hn6 i e; omega⟩)
    · rw [if_neg hck] at HX
      subst HX
      go_enter Try.func33, Try.ntmps33
      go_wp2_with fail
      refine HN.out.mono ?_
      rintro e w1 ⟨rfl, q1, rfl⟩
      obtain ⟨w0, hw0⟩ : ∃ w0, w.drewN q1 = w0 := ⟨_, rfl⟩
      have k0 : Chg (fun _ => False) w w0 := by rw [← hw0]; exact (Chg.refl (fun _ => False) w).drewN q1
      rw [hw0]
      have d0 := k0.cell c0 (fun h => h)
      have d1 := k0.cell c1 (fun h => h)
      have hct0 := HOD.out.chg k0 (fun _ _ _ h => h)
      have HC0 := Lib.hid hct0
      clear hw0 c0 c1 c2 c3 HN hct0
      go_wp2_with fail
      refine wp_region_E_drew [0, 2, 3, 4, 5, 6, 7, 8, 9, 10, 11, 12] (S := fun wx => Chg (fun _ => False) w0 wx) (by kernel_rfl) ((Chg.refl (fun _ => False) w0).drew) (fun hHeld => ?_)
      refine take_atE (i := 0) (some 24) (v := ?_) (by decide) rfl rfl (by kernel_rfl) (by kernel_rfl) (by kernel_rfl) (fun _ _ _ h => h) (Or.inl ⟨by rfl, ?_⟩) (by assumption) ?_
      rotate_left
      · (intro wx hSw; have q0 := hSw.cell d0 (fun h => h); have q1 := hSw.cell d1 (fun h => h); go_simp; try (with_reducible rfl))
      try simp only [Act.put, List.setIfInBounds_toArray, List.set_cons_zero, List.set_cons_succ]
      refine take_atE (i := 2) (some 26) (v := ?_) (by decide) rfl rfl (by kernel_rfl) (by kernel_rfl) (by kernel_rfl) (fun _ _ _ h => h) (Or.inl ⟨by rfl, ?_⟩) (by assumption) ?_
      rotate_left
      · (intro wx hSw; have q0 := hSw.cell d0 (fun h => h); have q1 := hSw.cell d1 (fun h => h); go_simp; try (with_reducible rfl))
      try simp only [Act.put, List.setIfInBounds_toArray, List.set_cons_zero, List.set_cons_succ]
      refine take_atE (i := 3) (some 27) (v := ?_) (by decide) rfl rfl (by kernel_rfl) (by kernel_rfl) (by kernel_rfl) (fun _ _ _ h => h) (Or.inl ⟨by rfl, ?_⟩) (by assumption) ?_
      rotate_left
      · (intro wx hSw; have q0 := hSw.cell d0 (fun h => h); have q1 := hSw.cell d1 (fun h => h); go_simp; try (with_reducible rfl))
      try simp only [Act.put, List.setIfInBounds_toArray, List.set_cons_zero, List.set_cons_succ]
      refine take_atE (i := 4) (some 28) (v := ?_) (by decide) rfl rfl (by kernel_rfl) (by kernel_rfl) (by kernel_rfl) (fun _ _ _ h => h) (Or.inl ⟨by rfl, ?_⟩) (by assumption) ?_
      rotate_left
      · (intro wx hSw; have q0 := hSw.cell d0 (fun h => h); have q1 := hSw.cell d1 (fun h => h); go_simp; try (with_reducible rfl))
      try simp only [Act.put, List.setIfInBounds_toArray, List.set_cons_zero, List.set_cons_succ]
      refine take_atE (i := 5) (some 29) (v := ?_) (by decide) rfl rfl (by kernel_rfl) (by kernel_rfl) (by kernel_rfl) (fun _ _ _ h => h) (Or.inl ⟨by rfl, ?_⟩) (by assumption) ?_
      rotate_left
      · (intro wx hSw; have q0 := hSw.cell d0 (fun h => h); have q1 := hSw.cell d1 (fun h => h); go_simp; try (with_reducible rfl))
      try simp only [Act.put, List.setIfInBounds_toArray, List.set_cons_zero, List.set_cons_succ]
      refine take_atE (i := 6) (some 30) (v := ?_) (by decide) rfl rfl (by kernel_rfl) (by kernel_rfl) (by kernel_rfl) (fun _ _ _ h => h) (Or.inl ⟨by rfl, ?_⟩) (by assumption) ?_
      rotate_left
      · (intro wx hSw; have q0 := hSw.cell d0 (fun h => h); have q1 := hSw.cell d1 (fun h => h); go_simp; try (with_reducible rfl))
      try simp only [Act.put, List.setIfInBounds_toArray, List.set_cons_zero, List.set_cons_succ]
      refine take_atE (i := 7) (some 31) (v := ?_) (by decide) rfl rfl (by kernel_rfl) (by kernel_rfl) (by kernel_rfl) (fun _ _ _ h => h) (Or.inl ⟨by rfl, ?_⟩) (by assumption) ?_
      rotate_left
      · (intro wx hSw; have q0 := hSw.cell d0 (fun h => h); have q1 := hSw.cell d1 (fun h => h); go_simp; try (with_reducible rfl))
      try simp only [Act.put, List.setIfInBounds_toArray, List.set_cons_zero, List.set_cons_succ]
      refine take_atE (i := 8) (some 32) (v := ?_) (by decide) rfl rfl (by kernel_rfl) (by kernel_rfl) (by kernel_rfl) (fun _ _ _ h => h) (Or.inl ⟨by rfl, ?_⟩) (by assumption) ?_
      rotate_left
      · (intro wx hSw; have q0 := hSw.cell d0 (fun h => h); have q1 := hSw.cell d1 (fun h => h); go_simp; try (with_reducible rfl))
      try simp only [Act.put, List.setIfInBounds_toArray, List.set_cons_zero, List.set_cons_succ]
      refine take_atE (i := 9) (some 33) (v := ?_) (by decide) rfl rfl (by kernel_rfl) (by kernel_rfl) (by kernel_rfl) (fun _ _ _ h => h) (Or.inl ⟨by rfl, ?_⟩) (by assumption) ?_
      rotate_left
      · (intro wx hSw; have q0 := hSw.cell d0 (fun h => h); have q1 := hSw.cell d1 (fun h => h); go_simp; try (with_reducible rfl))
      try simp only [Act.put, List.setIfInBounds_toArray, List.set_cons_zero, List.set_cons_succ]
      refine take_atE (i := 10) (some 34) (v := ?_) (by decide) rfl rfl (by kernel_rfl) (by kernel_rfl) (by kernel_rfl) (fun _ _ _ h => h) (Or.inl ⟨by rfl, ?_⟩) (by assumption) ?_
      rotate_left
      · (intro wx hSw; have q0 := hSw.cell d0 (fun h => h); have q1 := hSw.cell d1 (fun h => h); go_simp; try (with_reducible rfl))
      try simp only [Act.put, List.setIfInBounds_toArray, List.set_cons_zero, List.set_cons_succ]
      refine take_atE (i := 11) (some 35) (v := ?_) (by decide) rfl rfl (by kernel_rfl) (by kernel_rfl) (by kernel_rfl) (fun _ _ _ h => h) (Or.inl ⟨by rfl, ?_⟩) (by assumption) ?_
      rotate_left
      · (intro wx hSw; have q0 := hSw.cell d0 (fun h => h); have q1 := hSw.cell d1 (fun h => h); go_simp; try (with_reducible rfl))
      try simp only [Act.put, List.setIfInBounds_toArray, List.set_cons_zero, List.set_cons_succ]
      refine take_atE (i := 12) (some 36) (v := ?_) (by decide) rfl rfl (by kernel_rfl) (by kernel_rfl) (by kernel_rfl) (fun _ _ _ h => h) (Or.inl ⟨by rfl, ?_⟩) (by assumption) ?_
      rotate_left
      · (intro wx hSw; have q0 := hSw.cell d0 (fun h => h); have q1 := hSw.cell d1 (fun h => h); go_simp; try (with_reducible rfl))
      try simp only [Act.put, List.setIfInBounds_toArray, List.set_cons_zero, List.set_cons_succ]
      refine wpAnyE_ready (rs := [1]) (by kernel_rfl) (by simp) ?_
      refine AllReadyE.cons rfl (fun K hK => ?_) AllReadyE.nil
      go_simp
      refine hK.out _ _ ?_ (fun hHeld => ?_)
      · (first | exact hHeld | exact hHeld.alloc _ | exact hS6 | exact hHeld.drew)
      clear hK K
      try simp only [Act.put, List.setIfInBounds_toArray, List.set_cons_zero, List.set_cons_succ]
      refine wpAnyE_ready (rs := [13]) (by kernel_rfl) (by simp) ?_
      refine AllReadyE.cons rfl (fun K hK => ?_) AllReadyE.nil
      refine step_append rfl _ _ 22 22 rfl 9 16 strsApp none _ 0 0 [] (sv (t.rs.drop k)) _ rfl rfl (Own.nil_ _ _ _) (by exact Src.slice (HC0.out.chg hHeld (fun _ _ _ h => h))) (sv_one _) (t.rs.length - k) (by rw [sv_length, List.length_drop]; omega) (by have := H3.out; omega) (by have := H3.out; omega) ?_
      intro o6 A6 c6 w6 hO6 hor6 hc6
      go_simp
      rw [List.nil_append] at hO6
      have hS6 : Chg (fun _ => False) w0 w6 := hHeld.trans (hc6.mono (fun _ _ e => by cases e)) (fun _ _ h => h)
      have hn6 : ∀ g, o6 = some g → w0.heap.size ≤ g := fun g hg => by
        have := hHeld.size
        rcases hor6 with h0 | h0
        · rw [h0] at hg; cases hg
        · rw [h0] at hg; injection hg with hg; rw [← hg]; exact this
      have hh6 := hS6.heap (k0.heap HH.out (fun h => h)) (fun h => h)
      obtain ⟨⟨e0, e1, e2, e3⟩, hf6⟩ := four_cells' hh6
      have f1 := hf6 1
      have f0 := hf6 0
      have f2 := hf6 2
      have HH6 := Lib.hid hh6
      clear hf6 hh6
      refine hK.out _ _ ?_ (fun hHeld => ?_)
      · (first | exact hHeld | exact hHeld.alloc _ | exact hS6 | exact hHeld.drew)
      clear hK K
      try simp only [Act.put, List.setIfInBounds_toArray, List.set_cons_zero, List.set_cons_succ]
      refine wpAnyE_ready (rs := [14]) (by kernel_rfl) (by simp) ?_
      refine AllReadyE.consLast rfl (by kernel_rfl) (fun K hK => ?_) AllReadyE.nil
      go_simp
      refine hK.out _ _ ?_
      clear hK K
      try simp only [Act.put, List.setIfInBounds_toArray, List.set_cons_zero, List.set_cons_succ]
      refine wpAnyE_ready (rs := [15]) (by kernel_rfl) (by simp) ?_
      refine AllReadyE.consLast rfl (by kernel_rfl) (fun K hK => ?_) AllReadyE.nil
      go_simp
      refine hK.out _ _ ?_
      clear hK K
      try simp only [Act.put, List.setIfInBounds_toArray, List.set_cons_zero, List.set_cons_succ]
      refine wpAnyE_ready (rs := [16]) (by kernel_rfl) (by simp) ?_
      refine AllReadyE.consLast rfl (by kernel_rfl) (fun K hK => ?_) AllReadyE.nil
      go_simp
      refine hK.out _ _ ?_
      clear hK K
      try simp only [Act.put, List.setIfInBounds_toArray, List.set_cons_zero, List.set_cons_succ]
      refine wpAnyE_done (by kernel_rfl) ?_ _
      go_wp2_with fail
      go_ret
      have k8 : Chg (fun k => k = R) w0 (((w6.setCell ⟨R, 1, none⟩ (.slice A6 (t.rs.length - k) c6)).setCell ⟨R, 0, none⟩ (.int .i64 m)).setCell ⟨R, 2, none⟩ (.string s)) := (((Chg.wide (T := fun k => k = R) hS6).setIn rfl _ _).setIn rfl _ _).setIn rfl _ _
      have k9 : Chg (fun k => k = R) w6 (((w6.setCell ⟨R, 1, none⟩ (.slice A6 (t.rs.length - k) c6)).setCell ⟨R, 0, none⟩ (.int .i64 m)).setCell ⟨R, 2, none⟩ (.string s)) := (((Chg.refl (fun k => k = R) w6).setIn rfl _ _).setIn rfl _ _).setIn rfl _ _
      have hlen : (t.rs.drop k).length = t.rs.length - k := by rw [List.length_drop] <;> omega
      have z0 := k0.size
      refine ⟨rfl, ⟨h1, H30.out, by show (t.rs.drop k).length ≤ _; have := H3.out; omega, A6, c6, ?_, ?_, by show (t.rs.drop k).length ≤ _; rw [hlen]; exact hO6.fits, hO6.capMax⟩, k0.wide.trans k8 (fun _ _ h => h)⟩
      · have e1 := (four_set HH6.out (.slice A6 (t.rs.length - k) c6)).2.1
        have e2 := (four_set e1 (.int .i64 m)).1
        have e3 := (four_set e2 (.string s)).2.2.1
        show _ = some (Obj.cells #[.int .i64 (n : Int), .slice A6 (t.rs.drop k).length c6, _, _] _ _)
        rw [HM.out, hlen]
        exact e3
      · show Cs _ _ A6 (t.rs.drop k).length (sv (t.rs.drop k))
        rw [hlen]
        exact (hO6.cs.chg k9 (fun i hi e he => by have := hn6 i e; omega)).mono (fun i _ e => ⟨HU.out i (by have := hn6 i e; omega), by have := hn6 i e; omega⟩)
  · have hd0 : t.rs.drop k = [] := List.drop_of_length_le (by omega)
    have HD0 := Lib.hid hd0
    clear hN hNN hcs hh hU hm hf h30 hs h2 h3 hbs hd0 hkk
    have f1 := hff 1
    have f0 := hff 0
    have f2 := hff 2
    clear hff
    go_enter Try.func33, Try.ntmps33
    go_wp2_with fail
    refine HN.out.mono ?_
    rintro e w1 ⟨rfl, q1, rfl⟩
    obtain ⟨w0, hw0⟩ : ∃ w0, w.drewN q1 = w0 := ⟨_, rfl⟩
    have k0 : Chg (fun _ => False) w w0 := by rw [← hw0]; exact (Chg.refl (fun _ => False) w).drewN q1
    rw [hw0]
    have hh0 := k0.heap HH.out (fun h => h)
    clear hw0 c0 c1 c2 c3 f1 f0 f2 HN
    obtain ⟨⟨c0, c1, c2, c3⟩, hff⟩ := four_cells' hh0
    have f1 := hff 1
    have f0 := hff 0
    have f2 := hff 2
    have HH0 := Lib.hid hh0
    clear hff hh0
    go_wp2_with fail
    go_ret
    have k8 : Chg (fun k => k = R) w0 (((w0.setCell ⟨R, 1, none⟩ (.slice none 0 0)).setCell ⟨R, 0, none⟩ (.int .i64 m)).setCell ⟨R, 2, none⟩ (.string s)) := (((Chg.refl (fun k => k = R) w0).setIn rfl _ _).setIn rfl _ _).setIn rfl _ _
    refine ⟨rfl, ⟨h1, H30.out, by rw [HD0.out]; exact Nat.zero_le _, none, 0, ?_, by rw [HD0.out]; exact Cs.none_, by rw [HD0.out]; exact Nat.zero_le _, by decide⟩, k0.wide.trans k8 (fun _ _ h => h)⟩
    have e1 := (four_set HH0.out (.slice none 0 0)).2.1
    have e2 := (four_set e1 (.int .i64 m)).1
    have e3 := (four_set e2 (.string s)).2.2.1
    rw [HD0.out]
    show _ = some (Obj.cells #[.int .i64 (n : Int), _, _, _] _ _)
    rw [HM.out]
    exact e3
end
end Go.Proofs.Ytlnjadnddldjeaa
