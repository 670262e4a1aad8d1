/-
  The document's log of chapter 21 in memory: contracts of its New, Copy, Put, Meta, Base, Next, Get.
-/
import Derived.Test.YtlnjadnddldjeaaWal
import Derived.Test.YtlnjadnddldjeaaEnd
namespace Go.Proofs.Ytlnjadnddldjeaa
open Go.RowKit
set_option linter.unusedVariables false
set_option linter.unusedSimpArgs false

/-- In w the document's log lies at R and holds t; it and its array lie in U. -/
def RefAt (U : Nat → Prop) (w : World) (R : Nat) (t : LSt) : Prop :=
  U R ∧ t.f ≤ 1073741824 ∧ t.rs.length ≤ 1000000 ∧ ∃ A cap, w.heap[R]? = some (.cells #[.int .i64 (t.f : Int), .slice A t.rs.length cap, .string t.snap, .string t.note] 73 (0, 0)) ∧
    Cs w (fun k => U k ∧ k ≠ R) A t.rs.length (sv t.rs) ∧ t.rs.length ≤ cap ∧ cap ≤ 9223372036854775807
theorem RefAt.chg {U T : Nat → Prop} {w w' : World} {R : Nat} {t : LSt} (h : RefAt U w R t) (hc : Chg T w w') (hd : ∀ k, k < w.heap.size → U k → ¬ T k) : RefAt U w' R t := by
  obtain ⟨h1, h2, h3, A, cap, hh, hcs, hg⟩ := h
  exact ⟨h1, h2, h3, A, cap, hc.heap hh (hd R (lt_of_block hh) h1), hcs.chg hc fun k hk hs => hd k hk hs.1, hg⟩
theorem RefAt.keep {U : Nat → Prop} {w w' : World} {R : Nat} {t : LSt} (h : RefAt U w R t) (hc : Chg (fun _ => False) w w') : RefAt U w' R t := h.chg hc (fun _ _ _ h => h)
theorem RefAt.mono {U U' : Nat → Prop} {w : World} {R : Nat} {t : LSt} (h : RefAt U w R t) (hu : ∀ k, k < w.heap.size → U k → U' k) : RefAt U' w R t := by
  obtain ⟨h1, h2, h3, A, cap, hh, hcs, hg⟩ := h
  exact ⟨hu R (lt_of_block hh) h1, h2, h3, A, cap, hh, hcs.mono fun k hk hs => ⟨hu k hk hs.1, hs.2⟩, hg⟩
theorem RefAt.lt {U : Nat → Prop} {w : World} {R : Nat} {t : LSt} (h : RefAt U w R t) : R < w.heap.size := by
  obtain ⟨h1, h2, h3, A, cap, hh, hcs, hg⟩ := h
  exact lt_of_block hh
theorem four_cells' {w : World} {D : Nat} {x y z v : Value} {t : TypeId} (h : w.heap[D]? = some (.cells #[x, y, z, v] t (0, 0))) :
    (w.cell? ⟨D, 0, none⟩ = some x ∧ w.cell? ⟨D, 1, none⟩ = some y ∧ w.cell? ⟨D, 2, none⟩ = some z ∧ w.cell? ⟨D, 3, none⟩ = some v) ∧ ∀ j, w.frozen? ⟨D, j, none⟩ = false := by
  refine ⟨⟨?_, ?_, ?_, ?_⟩, fun j => by simp only [World.frozen?]; rw [h]; simp⟩
  all_goals
    simp only [World.cell?]; rw [h]; rfl
theorem four_set {w : World} {D : Nat} {x y z v : Value} {t : TypeId} (h : w.heap[D]? = some (.cells #[x, y, z, v] t (0, 0))) (a : Value) :
    (w.setCell ⟨D, 0, none⟩ a).heap[D]? = some (.cells #[a, y, z, v] t (0, 0)) ∧ (w.setCell ⟨D, 1, none⟩ a).heap[D]? = some (.cells #[x, a, z, v] t (0, 0)) ∧ (w.setCell ⟨D, 2, none⟩ a).heap[D]? = some (.cells #[x, y, a, v] t (0, 0)) ∧ (w.setCell ⟨D, 3, none⟩ a).heap[D]? = some (.cells #[x, y, z, a] t (0, 0)) :=
  ⟨heap_setCell_same w D 0 _ _ a h, heap_setCell_same w D 1 _ _ a h, heap_setCell_same w D 2 _ _ a h, heap_setCell_same w D 3 _ _ a h⟩
theorem fresh_of {w0 w : World} (h : Chg (fun _ => False) w0 w) (s : ByteArray) {X : Nat} (hX : w.heap.size = X) : Own (w.alloc (.cells #[.string s] 9)) 9 (some X) (some ⟨X, 0, none⟩) 1 1 [.string s] := by
  subst hX
  exact Own.fresh w [.string s] 9 (by simp)

section
variable {U : Nat → Prop} {w : World} {R : Nat} {t : LSt}
theorem RNew_calls (w : World) : Calls Try.prog 29 #[] w fun e w' => e = .returned (.pointer (some ⟨w.heap.size, 0, none⟩)) ∧ (∀ U : Nat → Prop, U w.heap.size → RefAt U w' w.heap.size init21) ∧ Chg (fun _ => False) w w' := by
  go_enter Try.func29, Try.ntmps29
  go_wp2_with fail
  go_ret
  exact ⟨rfl, fun U hU => ⟨hU, by decide, by decide, none, 0, heap_alloc_new w _, Cs.none_, Nat.le_refl _, by decide⟩, (Chg.refl _ w).alloc _⟩
theorem RNext_calls (h : RefAt U w R t) : Calls Try.prog 42 #[.pointer (some ⟨R, 0, none⟩)] w (Told (.int .i64 ((t.f + t.rs.length : Nat) : Int)) w) := by
  obtain ⟨h1, h2, h3, A, cap, hh, hcs, hg1, hg2⟩ := h
  obtain ⟨⟨c0, c1, c2, c3⟩, hf⟩ := four_cells' hh
  have hw := IntWalk.i64_in ((t.f : Int) + (t.rs.length : Int)) (by omega)
  clear hh hf hcs
  go_enter Try.func42, Try.ntmps42
  go_wp2_with fail
  go_quiet (fail)
  go_wp2_with fail
  go_ret
  exact ⟨by congr 2, _, rfl⟩
theorem RMeta_calls (h : RefAt U w R t) (s : ByteArray) (hs : s.size ≤ 65536) : Calls Try.prog 32 #[.pointer (some ⟨R, 0, none⟩), .string s] w fun e w' => e = .returned (.int .i64 0) ∧ RefAt U w' R { t with note := s } ∧ Chg (fun k => k = R) w w' := by
  obtain ⟨h1, h2, h3, A, cap, hh, hcs, hg1, hg2⟩ := h
  obtain ⟨⟨c0, c1, c2, c3⟩, hf⟩ := four_cells' hh
  have f3 := hf 3
  have hs' : ¬ (65536 : Int) < (s.size : Int) := by omega
  have hn := (four_set hh (.string s)).2.2.2
  have HN := Lib.hid hn
  clear hf hn hh
  go_enter Try.func32, Try.ntmps32
  go_wp2_with fail
  go_ret
  have k : Chg (fun k => k = R) w (w.setCell ⟨R, 3, none⟩ (.string s)) := (Chg.refl (fun k => k = R) w).setIn rfl _ _
  exact ⟨rfl, ⟨h1, h2, h3, A, cap, HN.out, hcs.chg k fun k _ hs hk => hs.2 hk, hg1, hg2⟩, k⟩
theorem RPut_arg (h : RefAt U w R t) {n : Int} {s : ByteArray} (hn : n < (t.f : Int) ∨ ((t.f + t.rs.length : Nat) : Int) < n ∨ 1073741824 ≤ n) : Calls Try.prog 31 #[.pointer (some ⟨R, 0, none⟩), .int .i64 n, .string s] w (Told (.int .i64 1) w) := by
  have hN := RNext_calls h
  obtain ⟨h1, h2, h3, A, cap, hh, hcs, hg1, hg2⟩ := h
  obtain ⟨⟨c0, c1, c2, c3⟩, hf⟩ := four_cells' hh
  obtain ⟨N, hNN⟩ : ∃ N : Int, ((t.f + t.rs.length : Nat) : Int) = N := ⟨_, rfl⟩
  rw [hNN] at hN hn
  have HN := Lib.hid hN
  clear hN hNN hh hf hcs h2 h3 hg1 hg2
  have hcase : n < (t.f : Int) ∨ (¬ n < (t.f : Int) ∧ N < n) ∨ (¬ n < (t.f : Int) ∧ ¬ N < n ∧ 1073741824 ≤ n) := by omega
  clear hn
  rcases hcase with g1 | ⟨g1, g2⟩ | ⟨g1, g2, g3⟩
  · go_enter Try.func31, Try.ntmps31
    go_wp2_with fail
    go_ret
    exact ⟨rfl, 0, rfl⟩
  all_goals
    go_enter Try.func31, Try.ntmps31
    go_wp2_with fail
    refine HN.out.mono ?_
    rintro e w1 ⟨rfl, q1, rfl⟩
    go_wp2_with fail
    go_ret
    exact ⟨rfl, q1, rfl⟩
theorem RBase_arg (h : RefAt U w R t) {n : Int} {s : ByteArray} (hn : n < (t.f : Int) ∨ 1073741824 < n) : Calls Try.prog 33 #[.pointer (some ⟨R, 0, none⟩), .int .i64 n, .string s] w (fun e w' => e = .returned (.int .i64 1) ∧ w = w') := by
  obtain ⟨h1, h2, h3, A, cap, hh, hcs, hg1, hg2⟩ := h
  obtain ⟨⟨c0, c1, c2, c3⟩, hf⟩ := four_cells' hh
  clear hh hf hcs h2 h3 hg1 hg2
  have hcase : n < (t.f : Int) ∨ (¬ n < (t.f : Int) ∧ 1073741824 < n) := by omega
  clear hn
  rcases hcase with g1 | ⟨g1, g2⟩
  all_goals
    go_enter Try.func33, Try.ntmps33
    go_wp2_with fail
    go_ret
    exact ⟨rfl, rfl⟩
set_option maxRecDepth 100000 in
set_option maxHeartbeats 2000000 in
theorem RPut_calls (h : RefAt U w R t) (hU : ∀ k, w.heap.size ≤ k → U k) {n : Nat} {s : ByteArray} {m : Int} (hm : (n : Int) = m) (hf : t.f ≤ n) (hn : n ≤ t.f + t.rs.length) (h30 : n < 1073741824) (hs : s.size ≤ 65536) (hk : t.rs.length < 1000000) :
    Calls Try.prog 31 #[.pointer (some ⟨R, 0, none⟩), .int .i64 m, .string s] w fun e w' => e = .returned (.int .i64 0) ∧ RefAt U w' R (putS t n s) ∧ Chg (fun k => k = R) w w' := by
  have hN := RNext_calls h
  have hlt := h.lt
  obtain ⟨h1, h2, h3, A, cap, hh, hcs, hg1, hg2⟩ := h
  obtain ⟨⟨c0, c1, c2, c3⟩, hff⟩ := four_cells' hh
  obtain ⟨k, hkk⟩ : ∃ k, n - t.f = k := ⟨_, rfl⟩
  obtain ⟨N, hNN⟩ : ∃ N : Int, ((t.f + t.rs.length : Nat) : Int) = N := ⟨_, rfl⟩
  rw [hNN] at hN
  have g1 : ¬ m < (t.f : Int) := by omega
  have g2 : ¬ N < m := by omega
  have g3 : ¬ (1073741824 : Int) ≤ m := by omega
  have g4 : m - (t.f : Int) = (k : Int) := by omega
  have g5 : (0 : Int) ≤ (k : Int) := by omega
  have g6 : (k : Int) ≤ (cap : Int) := by omega
  have g7 : ¬ (k : Int) < 0 := by omega
  have gw : IntKind.i64.wrap (k : Int) = (k : Int) := IntWalk.i64_in (k : Int) (by omega)
  have hs' : ¬ (65536 : Int) < (s.size : Int) := by omega
  have hkl : k ≤ t.rs.length := by omega
  have HN := Lib.hid hN
  have HKK := Lib.hid hkk
  have HKL := Lib.hid hkl
  have HK1 := Lib.hid hk
  have hct := hcs.take (k := k) hkl
  rw [sv_take] at hct
  have HCT := Lib.hid hct
  have HU := Lib.hid hU
  have HH := Lib.hid hh
  have H2 := Lib.hid h2
  clear hN hNN hkk hkl hct hcs hh hU hm hf hn h30 hs hk hff hg1 hg2 h2 h3
  go_enter Try.func31, Try.ntmps31
  go_wp2_with fail
  refine HN.out.mono ?_
  rintro e w1 ⟨rfl, q1, rfl⟩
  obtain ⟨w0, hw0⟩ : ∃ w0, w.drewN q1 = w0 := ⟨_, rfl⟩
  have k0 : Chg (fun _ => False) w w0 := by rw [← hw0]; exact (Chg.refl (fun _ => False) w).drewN q1
  rw [hw0]
  have d0 := k0.cell c0 (fun h => h)
  have d1 := k0.cell c1 (fun h => h)
  have hct0 := HCT.out.chg k0 (fun _ _ _ h => h)
  have HC0 := Lib.hid hct0
  clear hw0 c0 c1 c2 c3 HCT HN hct0
  go_wp2_with fail
  refine wp_region_E_drew [0, 2, 3, 4, 5, 6, 7, 8, 9, 10, 11, 12, 14] (S := fun wx => Chg (fun _ => False) w0 wx) (by kernel_rfl) ((Chg.refl (fun _ => False) w0).drew) (fun hHeld => ?_)
  refine take_atE (i := 0) (some 26) (v := ?_) (by decide) rfl rfl (by kernel_rfl) (by kernel_rfl) (by kernel_rfl) (fun _ _ _ h => h) (Or.inl ⟨by rfl, ?_⟩) (by assumption) ?_
  rotate_left
  · (intro wx hSw; have q0 := hSw.cell d0 (fun h => h); have q1 := hSw.cell d1 (fun h => h); go_simp; try (with_reducible rfl))
  try simp only [Act.put, List.setIfInBounds_toArray, List.set_cons_zero, List.set_cons_succ]
  refine take_atE (i := 2) (some 28) (v := ?_) (by decide) rfl rfl (by kernel_rfl) (by kernel_rfl) (by kernel_rfl) (fun _ _ _ h => h) (Or.inl ⟨by rfl, ?_⟩) (by assumption) ?_
  rotate_left
  · (intro wx hSw; have q0 := hSw.cell d0 (fun h => h); have q1 := hSw.cell d1 (fun h => h); go_simp; try (with_reducible rfl))
  try simp only [Act.put, List.setIfInBounds_toArray, List.set_cons_zero, List.set_cons_succ]
  refine take_atE (i := 3) (some 29) (v := ?_) (by decide) rfl rfl (by kernel_rfl) (by kernel_rfl) (by kernel_rfl) (fun _ _ _ h => h) (Or.inl ⟨by rfl, ?_⟩) (by assumption) ?_
  rotate_left
  · (intro wx hSw; have q0 := hSw.cell d0 (fun h => h); have q1 := hSw.cell d1 (fun h => h); go_simp; try (with_reducible rfl))
  try simp only [Act.put, List.setIfInBounds_toArray, List.set_cons_zero, List.set_cons_succ]
  refine take_atE (i := 4) (some 30) (v := ?_) (by decide) rfl rfl (by kernel_rfl) (by kernel_rfl) (by kernel_rfl) (fun _ _ _ h => h) (Or.inl ⟨by rfl, ?_⟩) (by assumption) ?_
  rotate_left
  · (intro wx hSw; have q0 := hSw.cell d0 (fun h => h); have q1 := hSw.cell d1 (fun h => h); go_simp; try (with_reducible rfl))
  try simp only [Act.put, List.setIfInBounds_toArray, List.set_cons_zero, List.set_cons_succ]
  refine take_atE (i := 5) (some 31) (v := ?_) (by decide) rfl rfl (by kernel_rfl) (by kernel_rfl) (by kernel_rfl) (fun _ _ _ h => h) (Or.inl ⟨by rfl, ?_⟩) (by assumption) ?_
  rotate_left
  · (intro wx hSw; have q0 := hSw.cell d0 (fun h => h); have q1 := hSw.cell d1 (fun h => h); go_simp; try (with_reducible rfl))
  try simp only [Act.put, List.setIfInBounds_toArray, List.set_cons_zero, List.set_cons_succ]
  refine take_atE (i := 6) (some 32) (v := ?_) (by decide) rfl rfl (by kernel_rfl) (by kernel_rfl) (by kernel_rfl) (fun _ _ _ h => h) (Or.inl ⟨by rfl, ?_⟩) (by assumption) ?_
  rotate_left
  · (intro wx hSw; have q0 := hSw.cell d0 (fun h => h); have q1 := hSw.cell d1 (fun h => h); go_simp; try (with_reducible rfl))
  try simp only [Act.put, List.setIfInBounds_toArray, List.set_cons_zero, List.set_cons_succ]
  refine take_atE (i := 7) (some 33) (v := ?_) (by decide) rfl rfl (by kernel_rfl) (by kernel_rfl) (by kernel_rfl) (fun _ _ _ h => h) (Or.inl ⟨by rfl, ?_⟩) (by assumption) ?_
  rotate_left
  · (intro wx hSw; have q0 := hSw.cell d0 (fun h => h); have q1 := hSw.cell d1 (fun h => h); go_simp; try (with_reducible rfl))
  try simp only [Act.put, List.setIfInBounds_toArray, List.set_cons_zero, List.set_cons_succ]
  refine take_atE (i := 8) (some 34) (v := ?_) (by decide) rfl rfl (by kernel_rfl) (by kernel_rfl) (by kernel_rfl) (fun _ _ _ h => h) (Or.inl ⟨by rfl, ?_⟩) (by assumption) ?_
  rotate_left
  · (intro wx hSw; have q0 := hSw.cell d0 (fun h => h); have q1 := hSw.cell d1 (fun h => h); go_simp; try (with_reducible rfl))
  try simp only [Act.put, List.setIfInBounds_toArray, List.set_cons_zero, List.set_cons_succ]
  refine take_atE (i := 9) (some 35) (v := ?_) (by decide) rfl rfl (by kernel_rfl) (by kernel_rfl) (by kernel_rfl) (fun _ _ _ h => h) (Or.inl ⟨by rfl, ?_⟩) (by assumption) ?_
  rotate_left
  · (intro wx hSw; have q0 := hSw.cell d0 (fun h => h); have q1 := hSw.cell d1 (fun h => h); go_simp; try (with_reducible rfl))
  try simp only [Act.put, List.setIfInBounds_toArray, List.set_cons_zero, List.set_cons_succ]
  refine take_atE (i := 10) (some 36) (v := ?_) (by decide) rfl rfl (by kernel_rfl) (by kernel_rfl) (by kernel_rfl) (fun _ _ _ h => h) (Or.inl ⟨by rfl, ?_⟩) (by assumption) ?_
  rotate_left
  · (intro wx hSw; have q0 := hSw.cell d0 (fun h => h); have q1 := hSw.cell d1 (fun h => h); go_simp; try (with_reducible rfl))
  try simp only [Act.put, List.setIfInBounds_toArray, List.set_cons_zero, List.set_cons_succ]
  refine take_atE (i := 11) (some 37) (v := ?_) (by decide) rfl rfl (by kernel_rfl) (by kernel_rfl) (by kernel_rfl) (fun _ _ _ h => h) (Or.inl ⟨by rfl, ?_⟩) (by assumption) ?_
  rotate_left
  · (intro wx hSw; have q0 := hSw.cell d0 (fun h => h); have q1 := hSw.cell d1 (fun h => h); go_simp; try (with_reducible rfl))
  try simp only [Act.put, List.setIfInBounds_toArray, List.set_cons_zero, List.set_cons_succ]
  refine take_atE (i := 12) (some 38) (v := ?_) (by decide) rfl rfl (by kernel_rfl) (by kernel_rfl) (by kernel_rfl) (fun _ _ _ h => h) (Or.inl ⟨by rfl, ?_⟩) (by assumption) ?_
  rotate_left
  · (intro wx hSw; have q0 := hSw.cell d0 (fun h => h); have q1 := hSw.cell d1 (fun h => h); go_simp; try (with_reducible rfl))
  try simp only [Act.put, List.setIfInBounds_toArray, List.set_cons_zero, List.set_cons_succ]
  refine take_atE (i := 14) (some 40) (v := ?_) (by decide) rfl rfl (by kernel_rfl) (by kernel_rfl) (by kernel_rfl) (fun _ _ _ h => h) (Or.inl ⟨by rfl, ?_⟩) (by assumption) ?_
  rotate_left
  · (intro wx hSw; have q0 := hSw.cell d0 (fun h => h); have q1 := hSw.cell d1 (fun h => h); go_simp; try (with_reducible rfl))
  try simp only [Act.put, List.setIfInBounds_toArray, List.set_cons_zero, List.set_cons_succ]
  refine wpAnyE_ready (rs := [1, 15]) (by kernel_rfl) (by simp) ?_
  refine AllReadyE.cons rfl (fun K hK => ?_) ?_
  · skip
    go_simp
    refine hK.out _ _ ?_ (fun hHeld => ?_)
    · (first | exact hHeld | exact hHeld.alloc _ | exact hS7 | exact hS6 | exact hHeld.drew)
    clear hK K
    try simp only [Act.put, List.setIfInBounds_toArray, List.set_cons_zero, List.set_cons_succ]
    refine wpAnyE_ready (rs := [13, 15]) (by kernel_rfl) (by simp) ?_
    refine AllReadyE.cons rfl (fun K hK => ?_) ?_
    · skip
      refine step_append rfl _ _ 22 22 rfl 9 16 strsApp none _ 0 0 [] (sv (t.rs.take k)) _ rfl rfl (Own.nil_ _ _ _) (by exact Src.slice (HC0.out.chg hHeld (fun _ _ _ h => h))) (sv_one _) k (by rw [sv_length, List.length_take, Nat.min_eq_left HKL.out, Nat.zero_add]) (by have := HKL.out; have := HK1.out; omega) (by have := HKL.out; have := HK1.out; omega) ?_
      intro o6 A6 c6 w6 hO6 hor6 hc6
      go_simp
      rw [List.nil_append] at hO6
      have hS6 : Chg (fun _ => False) w0 w6 := hHeld.trans (hc6.mono (fun _ _ e => by cases e)) (fun _ _ h => h)
      have hn6 : ∀ g, o6 = some g → w0.heap.size ≤ g := fun g hg => by
        have := hHeld.size
        rcases hor6 with h0 | h0
        · rw [h0] at hg; cases hg
        · rw [h0] at hg; injection hg with hg; rw [← hg]; exact this
      refine hK.out _ _ ?_ (fun hHeld => ?_)
      · (first | exact hHeld | exact hHeld.alloc _ | exact hS7 | exact hS6 | exact hHeld.drew)
      clear hK K
      try simp only [Act.put, List.setIfInBounds_toArray, List.set_cons_zero, List.set_cons_succ]
      refine wpAnyE_ready (rs := [15]) (by kernel_rfl) (by simp) ?_
      refine AllReadyE.cons rfl (fun K hK => ?_) AllReadyE.nil
      go_simp
      have hs15 := fresh_of hHeld s (X := w6.heap.size) rfl
      have hO6 := hO6.chg ((Chg.refl (fun _ => False) _).alloc (.cells #[.string s] 9)) (fun _ _ h => h)
      refine hK.out _ _ ?_ (fun hHeld => ?_)
      · (first | exact hHeld | exact hHeld.alloc _ | exact hS7 | exact hS6 | exact hHeld.drew)
      clear hK K
      try simp only [Act.put, List.setIfInBounds_toArray, List.set_cons_zero, List.set_cons_succ]
      refine wpAnyE_ready (rs := [16]) (by kernel_rfl) (by simp) ?_
      refine AllReadyE.cons rfl (fun K hK => ?_) AllReadyE.nil
      refine step_append rfl _ _ 22 22 rfl 9 16 strsApp o6 A6 k c6 (sv (t.rs.take k)) [.string s] _ rfl rfl (by exact hO6) (by exact Src.slice hs15.cs) (by intro u hu; simp at hu; subst hu; rfl) (k + 1) rfl (by have := HKL.out; have := HK1.out; omega) (by have := HKL.out; have := HK1.out; omega) ?_
      intro o7 A7 c7 w7 hO7 hor7 hc7
      go_simp
      have hS7 : Chg (fun _ => False) w0 w7 := (hHeld.wide.trans (T := fun k => w0.heap.size ≤ k) hc7 (fun i _ e => hn6 i e)).new (fun i hi h => by omega)
      have hn7 : ∀ g, o7 = some g → w0.heap.size ≤ g := fun g hg => by
        have := hHeld.size
        rcases hor7 with h0 | h0
        · exact hn6 g (by rw [← h0, hg])
        · rw [h0] at hg; injection hg with hg; rw [← hg]; exact this
      have hh7 := hS7.heap (k0.heap HH.out (fun h => h)) (fun h => h)
      obtain ⟨⟨e0, e1, e2, e3⟩, hf7⟩ := four_cells' hh7
      have f1 := hf7 1
      clear hf7
      refine hK.out _ _ ?_ (fun hHeld => ?_)
      · (first | exact hHeld | exact hHeld.alloc _ | exact hS7 | exact hS6 | exact hHeld.drew)
      clear hK K
      try simp only [Act.put, List.setIfInBounds_toArray, List.set_cons_zero, List.set_cons_succ]
      refine wpAnyE_ready (rs := [17]) (by kernel_rfl) (by simp) ?_
      refine AllReadyE.consLast rfl (by kernel_rfl) (fun K hK => ?_) AllReadyE.nil
      go_simp
      refine hK.out _ _ ?_
      clear hK K
      try simp only [Act.put, List.setIfInBounds_toArray, List.set_cons_zero, List.set_cons_succ]
      refine wpAnyE_ready (rs := [18]) (by kernel_rfl) (by simp) ?_
      refine AllReadyE.consLast rfl (by kernel_rfl) (fun K hK => ?_) AllReadyE.nil
      go_simp
      refine hK.out _ _ ?_
      clear hK K
      try simp only [Act.put, List.setIfInBounds_toArray, List.set_cons_zero, List.set_cons_succ]
      refine wpAnyE_ready (rs := [19]) (by kernel_rfl) (by simp) ?_
      refine AllReadyE.consLast rfl (by kernel_rfl) (fun K hK => ?_) AllReadyE.nil
      go_simp
      refine hK.out _ _ ?_
      clear hK K
      try simp only [Act.put, List.setIfInBounds_toArray, List.set_cons_zero, List.set_cons_succ]
      refine wpAnyE_done (by kernel_rfl) ?_ _
      go_wp2_with fail
      go_ret
      have k8 : Chg (fun k => k = R) w0 (w7.setCell ⟨R, 1, none⟩ (.slice A7 (k + 1) c7)) := (Chg.wide (T := fun k => k = R) hS7).setIn rfl _ _
      have hlen : (putS t n s).rs.length = k + 1 := by
        show (t.rs.take (n - t.f) ++ [s]).length = _
        rw [HKK.out, List.length_append, List.length_take, Nat.min_eq_left HKL.out]; rfl
      have hsv : sv (putS t n s).rs = sv (t.rs.take k) ++ [.string s] := by
        show sv (t.rs.take (n - t.f) ++ [s]) = _
        rw [HKK.out]; simp [sv]
      refine ⟨rfl, ⟨h1, H2.out, by rw [hlen]; have := HKL.out; have := HK1.out; omega, A7, c7, ?_, ?_, by rw [hlen]; exact hO7.fits, hO7.capMax⟩, k0.wide.trans k8 (fun _ _ h => h)⟩
      · rw [hlen]
        exact (four_set hh7 _).2.1
      · rw [hlen, hsv]
        have z0 := k0.size
        exact (hO7.cs.chg ((Chg.refl (fun k => k = R) w7).setIn rfl 1 (.slice A7 (k + 1) c7)) (fun i hi e he => by have := hn7 i e; omega)).mono (fun i _ e => ⟨HU.out i (by have := hn7 i e; omega), by have := hn7 i e; omega⟩)
    refine AllReadyE.cons rfl (fun K hK => ?_) ?_
    · skip
      go_simp
      have hs15 := fresh_of hHeld s (X := w0.heap.size + 1) (by simp)
      refine hK.out _ _ ?_ (fun hHeld => ?_)
      · (first | exact hHeld | exact hHeld.alloc _ | exact hS7 | exact hS6 | exact hHeld.drew)
      clear hK K
      try simp only [Act.put, List.setIfInBounds_toArray, List.set_cons_zero, List.set_cons_succ]
      refine wpAnyE_ready (rs := [13]) (by kernel_rfl) (by simp) ?_
      refine AllReadyE.cons rfl (fun K hK => ?_) AllReadyE.nil
      refine step_append rfl _ _ 22 22 rfl 9 16 strsApp none _ 0 0 [] (sv (t.rs.take k)) _ rfl rfl (Own.nil_ _ _ _) (by exact Src.slice (HC0.out.chg hHeld (fun _ _ _ h => h))) (sv_one _) k (by rw [sv_length, List.length_take, Nat.min_eq_left HKL.out, Nat.zero_add]) (by have := HKL.out; have := HK1.out; omega) (by have := HKL.out; have := HK1.out; omega) ?_
      intro o6 A6 c6 w6 hO6 hor6 hc6
      go_simp
      rw [List.nil_append] at hO6
      have hS6 : Chg (fun _ => False) w0 w6 := hHeld.trans (hc6.mono (fun _ _ e => by cases e)) (fun _ _ h => h)
      have hn6 : ∀ g, o6 = some g → w0.heap.size ≤ g := fun g hg => by
        have := hHeld.size
        rcases hor6 with h0 | h0
        · rw [h0] at hg; cases hg
        · rw [h0] at hg; injection hg with hg; rw [← hg]; exact this
      have hs15 := hs15.chg hc6 (fun k _ h => by cases h)
      refine hK.out _ _ ?_ (fun hHeld => ?_)
      · (first | exact hHeld | exact hHeld.alloc _ | exact hS7 | exact hS6 | exact hHeld.drew)
      clear hK K
      try simp only [Act.put, List.setIfInBounds_toArray, List.set_cons_zero, List.set_cons_succ]
      refine wpAnyE_ready (rs := [16]) (by kernel_rfl) (by simp) ?_
      refine AllReadyE.cons rfl (fun K hK => ?_) AllReadyE.nil
      refine step_append rfl _ _ 22 22 rfl 9 16 strsApp o6 A6 k c6 (sv (t.rs.take k)) [.string s] _ rfl rfl (by exact hO6) (by exact Src.slice hs15.cs) (by intro u hu; simp at hu; subst hu; rfl) (k + 1) rfl (by have := HKL.out; have := HK1.out; omega) (by have := HKL.out; have := HK1.out; omega) ?_
      intro o7 A7 c7 w7 hO7 hor7 hc7
      go_simp
      have hS7 : Chg (fun _ => False) w0 w7 := (hHeld.wide.trans (T := fun k => w0.heap.size ≤ k) hc7 (fun i _ e => hn6 i e)).new (fun i hi h => by omega)
      have hn7 : ∀ g, o7 = some g → w0.heap.size ≤ g := fun g hg => by
        have := hHeld.size
        rcases hor7 with h0 | h0
        · exact hn6 g (by rw [← h0, hg])
        · rw [h0] at hg; injection hg with hg; rw [← hg]; exact this
      have hh7 := hS7.heap (k0.heap HH.out (fun h => h)) (fun h => h)
      obtain ⟨⟨e0, e1, e2, e3⟩, hf7⟩ := four_cells' hh7
      have f1 := hf7 1
      clear hf7
      refine hK.out _ _ ?_ (fun hHeld => ?_)
      · (first | exact hHeld | exact hHeld.alloc _ | exact hS7 | exact hS6 | exact hHeld.drew)
      clear hK K
      try simp only [Act.put, List.setIfInBounds_toArray, List.set_cons_zero, List.set_cons_succ]
      refine wpAnyE_ready (rs := [17]) (by kernel_rfl) (by simp) ?_
      refine AllReadyE.consLast rfl (by kernel_rfl) (fun K hK => ?_) AllReadyE.nil
      go_simp
      refine hK.out _ _ ?_
      clear hK K
      try simp only [Act.put, List.setIfInBounds_toArray, List.set_cons_zero, List.set_cons_succ]
      refine wpAnyE_ready (rs := [18]) (by kernel_rfl) (by simp) ?_
      refine AllReadyE.consLast rfl (by kernel_rfl) (fun K hK => ?_) AllReadyE.nil
      go_simp
      refine hK.out _ _ ?_
      clear hK K
      try simp only [Act.put, List.setIfInBounds_toArray, List.set_cons_zero, List.set_cons_succ]
      refine wpAnyE_ready (rs := [19]) (by kernel_rfl) (by simp) ?_
      refine AllReadyE.consLast rfl (by kernel_rfl) (fun K hK => ?_) AllReadyE.nil
      go_simp
      refine hK.out _ _ ?_
      clear hK K
      try simp only [Act.put, List.setIfInBounds_toArray, List.set_cons_zero, List.set_cons_succ]
      refine wpAnyE_done (by kernel_rfl) ?_ _
      go_wp2_with fail
      go_ret
      have k8 : Chg (fun k => k = R) w0 (w7.setCell ⟨R, 1, none⟩ (.slice A7 (k + 1) c7)) := (Chg.wide (T := fun k => k = R) hS7).setIn rfl _ _
      have hlen : (putS t n s).rs.length = k + 1 := by
        show (t.rs.take (n - t.f) ++ [s]).length = _
        rw [HKK.out, List.length_append, List.length_take, Nat.min_eq_left HKL.out]; rfl
      have hsv : sv (putS t n s).rs = sv (t.rs.take k) ++ [.string s] := by
        show sv (t.rs.take (n - t.f) ++ [s]) = _
        rw [HKK.out]; simp [sv]
      refine ⟨rfl, ⟨h1, H2.out, by rw [hlen]; have := HKL.out; have := HK1.out; omega, A7, c7, ?_, ?_, by rw [hlen]; exact hO7.fits, hO7.capMax⟩, k0.wide.trans k8 (fun _ _ h => h)⟩
      · rw [hlen]
        exact (four_set hh7 _).2.1
      · rw [hlen, hsv]
        have z0 := k0.size
        exact (hO7.cs.chg ((Chg.refl (fun k => k = R) w7).setIn rfl 1 (.slice A7 (k + 1) c7)) (fun i hi e he => by have := hn7 i e; omega)).mono (fun i _ e => ⟨HU.out i (by have := hn7 i e; omega), by have := hn7 i e; omega⟩)
    exact AllReadyE.nil
  refine AllReadyE.cons rfl (fun K hK => ?_) ?_
  · skip
    go_simp
    have hs15 := fresh_of hHeld s (X := w0.heap.size) rfl
    refine hK.out _ _ ?_ (fun hHeld => ?_)
    · (first | exact hHeld | exact hHeld.alloc _ | exact hS7 | exact hS6 | exact hHeld.drew)
    clear hK K
    try simp only [Act.put, List.setIfInBounds_toArray, List.set_cons_zero, List.set_cons_succ]
    refine wpAnyE_ready (rs := [1]) (by kernel_rfl) (by simp) ?_
    refine AllReadyE.cons rfl (fun K hK => ?_) AllReadyE.nil
    go_simp
    have hs15 := fun o => hs15.chg ((Chg.refl (fun _ => False) _).alloc o) (fun _ _ h => h)
    refine hK.out _ _ ?_ (fun hHeld => ?_)
    · (first | exact hHeld | exact hHeld.alloc _ | exact hS7 | exact hS6 | exact hHeld.drew)
    clear hK K
    try simp only [Act.put, List.setIfInBounds_toArray, List.set_cons_zero, List.set_cons_succ]
    refine wpAnyE_ready (rs := [13]) (by kernel_rfl) (by simp) ?_
    refine AllReadyE.cons rfl (fun K hK => ?_) AllReadyE.nil
    refine step_append rfl _ _ 22 22 rfl 9 16 strsApp none _ 0 0 [] (sv (t.rs.take k)) _ rfl rfl (Own.nil_ _ _ _) (by exact Src.slice (HC0.out.chg hHeld (fun _ _ _ h => h))) (sv_one _) k (by rw [sv_length, List.length_take, Nat.min_eq_left HKL.out, Nat.zero_add]) (by have := HKL.out; have := HK1.out; omega) (by have := HKL.out; have := HK1.out; omega) ?_
    intro o6 A6 c6 w6 hO6 hor6 hc6
    go_simp
    rw [List.nil_append] at hO6
    have hS6 : Chg (fun _ => False) w0 w6 := hHeld.trans (hc6.mono (fun _ _ e => by cases e)) (fun _ _ h => h)
    have hn6 : ∀ g, o6 = some g → w0.heap.size ≤ g := fun g hg => by
      have := hHeld.size
      rcases hor6 with h0 | h0
      · rw [h0] at hg; cases hg
      · rw [h0] at hg; injection hg with hg; rw [← hg]; exact this
    have hs15 := (hs15 _).chg hc6 (fun k _ h => by cases h)
    refine hK.out _ _ ?_ (fun hHeld => ?_)
    · (first | exact hHeld | exact hHeld.alloc _ | exact hS7 | exact hS6 | exact hHeld.drew)
    clear hK K
    try simp only [Act.put, List.setIfInBounds_toArray, List.set_cons_zero, List.set_cons_succ]
    refine wpAnyE_ready (rs := [16]) (by kernel_rfl) (by simp) ?_
    refine AllReadyE.cons rfl (fun K hK => ?_) AllReadyE.nil
    refine step_append rfl _ _ 22 22 rfl 9 16 strsApp o6 A6 k c6 (sv (t.rs.take k)) [.string s] _ rfl rfl (by exact hO6) (by exact Src.slice hs15.cs) (by intro u hu; simp at hu; subst hu; rfl) (k + 1) rfl (by have := HKL.out; have := HK1.out; omega) (by have := HKL.out; have := HK1.out; omega) ?_
    intro o7 A7 c7 w7 hO7 hor7 hc7
    go_simp
    have hS7 : Chg (fun _ => False) w0 w7 := (hHeld.wide.trans (T := fun k => w0.heap.size ≤ k) hc7 (fun i _ e => hn6 i e)).new (fun i hi h => by omega)
    have hn7 : ∀ g, o7 = some g → w0.heap.size ≤ g := fun g hg => by
      have := hHeld.size
      rcases hor7 with h0 | h0
      · exact hn6 g (by rw [← h0, hg])
      · rw [h0] at hg; injection hg with hg; rw [← hg]; exact this
    have hh7 := hS7.heap (k0.heap HH.out (fun h => h)) (fun h => h)
    obtain ⟨⟨e0, e1, e2, e3⟩, hf7⟩ := four_cells' hh7
    have f1 := hf7 1
    clear hf7
    refine hK.out _ _ ?_ (fun hHeld => ?_)
    · (first | exact hHeld | exact hHeld.alloc _ | exact hS7 | exact hS6 | exact hHeld.drew)
    clear hK K
    try simp only [Act.put, List.setIfInBounds_toArray, List.set_cons_zero, List.set_cons_succ]
    refine wpAnyE_ready (rs := [17]) (by kernel_rfl) (by simp) ?_
    refine AllReadyE.consLast rfl (by kernel_rfl) (fun K hK => ?_) AllReadyE.nil
    go_simp
    refine hK.out _ _ ?_
    clear hK K
    try simp only [Act.put, List.setIfInBounds_toArray, List.set_cons_zero, List.set_cons_succ]
    refine wpAnyE_ready (rs := [18]) (by kernel_rfl) (by simp) ?_
    refine AllReadyE.consLast rfl (by kernel_rfl) (fun K hK => ?_) AllReadyE.nil
    go_simp
    refine hK.out _ _ ?_
    clear hK K
    try simp only [Act.put, List.setIfInBounds_toArray, List.set_cons_zero, List.set_cons_succ]
    refine wpAnyE_ready (rs := [19]) (by kernel_rfl) (by simp) ?_
    refine AllReadyE.consLast rfl (by kernel_rfl) (fun K hK => ?_) AllReadyE.nil
    go_simp
    refine hK.out _ _ ?_
    clear hK K
    try simp only [Act.put, List.setIfInBounds_toArray, List.set_cons_zero, List.set_cons_succ]
    refine wpAnyE_done (by kernel_rfl) ?_ _
    go_wp2_with fail
    go_ret
    have k8 : Chg (fun k => k = R) w0 (w7.setCell ⟨R, 1, none⟩ (.slice A7 (k + 1) c7)) := (Chg.wide (T := fun k => k = R) hS7).setIn rfl _ _
    have hlen : (putS t n s).rs.length = k + 1 := by
      show (t.rs.take (n - t.f) ++ [s]).length = _
      rw [HKK.out, List.length_append, List.length_take, Nat.min_eq_left HKL.out]; rfl
    have hsv : sv (putS t n s).rs = sv (t.rs.take k) ++ [.string s] := by
      show sv (t.rs.take (n - t.f) ++ [s]) = _
      rw [HKK.out]; simp [sv]
    refine ⟨rfl, ⟨h1, H2.out, by rw [hlen]; have := HKL.out; have := HK1.out; omega, A7, c7, ?_, ?_, by rw [hlen]; exact hO7.fits, hO7.capMax⟩, k0.wide.trans k8 (fun _ _ h => h)⟩
    · rw [hlen]
      exact (four_set hh7 _).2.1
    · rw [hlen, hsv]
      have z0 := k0.size
      exact (hO7.cs.chg ((Chg.refl (fun k => k = R) w7).setIn rfl 1 (.slice A7 (k + 1) c7)) (fun i hi e he => by have := hn7 i e; omega)).mono (fun i _ e => ⟨HU.out i (by have := hn7 i e; omega), by have := hn7 i e; omega⟩)
  exact AllReadyE.nil
end
end Go.Proofs.Ytlnjadnddldjeaa
