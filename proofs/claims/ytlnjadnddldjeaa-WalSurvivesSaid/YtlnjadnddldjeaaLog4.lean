/-
  Contract of a log's Put.
-/
import Derived.Test.YtlnjadnddldjeaaLog3
namespace Go.Proofs.Ytlnjadnddldjeaa
open Go.RowKit
set_option linter.unusedVariables false
set_option linter.unusedSimpArgs false

theorem sv_take (rs : List ByteArray) (k : Nat) : (sv rs).take k = sv (rs.take k) := by simp [sv]
theorem five_set2 {w : World} {D : Nat} {x y z v u : Value} {t : TypeId} (h : w.heap[D]? = some (.cells #[x, y, z, v, u] t (0, 0))) (a : Value) : (w.setCell ⟨D, 2, none⟩ a).heap[D]? = some (.cells #[x, y, a, v, u] t (0, 0)) :=
  heap_setCell_same w D 2 _ _ a h

set_option maxRecDepth 100000 in
set_option maxHeartbeats 2000000 in
theorem Put_ok {w : World} {L D f k : Nat} {own dOwn : Option Nat} {rs : List ByteArray} {snap note s : ByteArray} {bs : List UInt8} {safe : Nat} (h : LogAt w L D own f rs snap note) (hd : DiskAt w D dOwn bs safe) (hk : k ≤ rs.length) (hk1 : k < 1000000) (hmost : f + k < 1073741824) (hs : s.size ≤ 65536) (hroom : bs.length + (s.size + 21) ≤ 4194304) :
    Calls Try.prog 11 #[.pointer (some ⟨L, 0, none⟩), .int .i64 ((f + k : Nat) : Int), .string s] w (Kept21 w L D own dOwn (bs ++ fframe (wrec 1 ((f + k : Nat) : Int) s.data.toList)) safe f (rs.take k ++ [s]) snap note) := by
  have hN := Next_calls h
  obtain ⟨p1, p2, p3⟩ := log_apart h hd
  have P1 := Lib.hid p1
  have P2 := Lib.hid p2
  have P3 := Lib.hid p3
  have hl := h
  obtain ⟨h1, h2, A, cap, hh, hO⟩ := h
  obtain ⟨⟨c0, c1, c2, c3, c4⟩, hf⟩ := five_cells hh
  have hcap := hO.2.1
  have hmI : ((f + k : Nat) : Int) < 1073741824 := by omega
  obtain ⟨m, hm⟩ : ∃ m : Int, ((f + k : Nat) : Int) = m := ⟨_, rfl⟩
  obtain ⟨N, hNN⟩ : ∃ N, f + rs.length = N := ⟨_, rfl⟩
  rw [hNN] at hN
  rw [hm] at hmI ⊢
  have g1 : ¬ m < (f : Int) := by omega
  have g2 : ¬ (N : Int) < m := by omega
  have g3 : ¬ (1073741824 : Int) ≤ m := by omega
  have g4 : m - (f : Int) = (k : Int) := by omega
  have g5 : (0 : Int) ≤ (k : Int) := by omega
  have g6 : (k : Int) ≤ (cap : Int) := by omega
  have g7 : ¬ (k : Int) < 0 := by omega
  have gw : IntKind.i64.wrap (k : Int) = (k : Int) := IntWalk.i64_in (k : Int) (by omega)
  have gmx : (k : Int) ≤ max (k : Int) 0 := by omega
  have hs' : ¬ (65536 : Int) < (s.size : Int) := by omega
  have HN := Lib.hid hN
  have HMO := Lib.hid hmost
  have HK1 := Lib.hid hk1
  have H1 := Lib.hid h1
  have H2 := Lib.hid h2
  have hOlt : ∀ g, own = some g → g < w.heap.size := fun g hg => hO.lt hg
  have HOL := Lib.hid hOlt
  have hLlt := hl.lt
  clear hOlt hmI hmost hk1 h1 h2 hN hm hNN hh hf hO p1 p2 p3
  go_enter Try.func11, Try.ntmps11
  go_wp2_with fail
  refine HN.out.mono ?_
  rintro e w1 ⟨rfl, q1, rfl⟩
  go_wp2_with fail
  refine wp_region_held_drew (S := fun wx => wx.cell? ⟨L, 0, none⟩ = some (.pointer (some ⟨D, 0, none⟩))) (by kernel_rfl) c0 (fun hHeld => ?_)
  refine take_at (i := 0) (some 29) (v := ?_) rfl rfl (by kernel_rfl) (by kernel_rfl) (by kernel_rfl) (fun _ _ _ h => h) (Or.inl ⟨by rfl, ?_⟩) (by assumption) ?_
  rotate_left
  · (intro wx hSw; go_simp; try (with_reducible rfl))
  try simp only [Act.put, List.setIfInBounds_toArray, List.set_cons_zero, List.set_cons_succ]
  refine take_at (i := 1) (some 30) (v := ?_) rfl rfl (by kernel_rfl) (by kernel_rfl) (by kernel_rfl) (fun _ _ _ h => h) (Or.inl ⟨by rfl, ?_⟩) (by assumption) ?_
  rotate_left
  · (intro wx hSw; go_simp; try (with_reducible rfl))
  try simp only [Act.put, List.setIfInBounds_toArray, List.set_cons_zero, List.set_cons_succ]
  refine take_at (i := 2) (some 31) (v := ?_) rfl rfl (by kernel_rfl) (by kernel_rfl) (by kernel_rfl) (fun _ _ _ h => h) (Or.inl ⟨by rfl, ?_⟩) (by assumption) ?_
  rotate_left
  · (intro wx hSw; go_simp; try (with_reducible rfl))
  try simp only [Act.put, List.setIfInBounds_toArray, List.set_cons_zero, List.set_cons_succ]
  refine take_at (i := 3) (some 32) (v := ?_) rfl rfl (by kernel_rfl) (by kernel_rfl) (by kernel_rfl) (fun _ _ _ h => h) (Or.inl ⟨by rfl, ?_⟩) (by assumption) ?_
  rotate_left
  · (intro wx hSw; go_simp; try (with_reducible rfl))
  try simp only [Act.put, List.setIfInBounds_toArray, List.set_cons_zero, List.set_cons_succ]
  refine take_at (i := 4) (some 33) (v := ?_) rfl rfl (by kernel_rfl) (by kernel_rfl) (by kernel_rfl) (fun _ _ _ h => h) (Or.inl ⟨by rfl, ?_⟩) (by assumption) ?_
  rotate_left
  · (intro wx hSw; go_simp; try (with_reducible rfl))
  try simp only [Act.put, List.setIfInBounds_toArray, List.set_cons_zero, List.set_cons_succ]
  refine take_at (i := 5) (some 34) (v := ?_) rfl rfl (by kernel_rfl) (by kernel_rfl) (by kernel_rfl) (fun _ _ _ h => h) (Or.inl ⟨by rfl, ?_⟩) (by assumption) ?_
  rotate_left
  · (intro wx hSw; go_simp; try (with_reducible rfl))
  try simp only [Act.put, List.setIfInBounds_toArray, List.set_cons_zero, List.set_cons_succ]
  refine wpAnyH_ready (rs := [6]) (by kernel_rfl) (by simp) ?_
  refine AllReadyH.cons rfl (fun K hK => ?_) AllReadyH.nil
  go_simp
  refine (written_calls _ 1 m s (by omega)).mono ?_
  rintro e w2 ⟨o2, A2, c2x, rfl, hw2, hn2, hc2⟩
  have k2 : Chg (fun _ => False) w w2 := by first | exact (((Chg.refl (fun _ => False) w).drewN q1).drew).trans hc2 (fun _ _ h => h) | exact ((Chg.refl (fun _ => False) w).drewN _).trans hc2 (fun _ _ h => h)
  have d0 := k2.cell c0 (fun h => h)
  have hl2 := hl.keep k2
  have hd2 := hd.chg k2 (fun h => h) (fun _ _ h => h)
  have hcsx := hw2.cs
  go_wp2_with fail
  refine hK.out _ _ ?_ (fun hHeld => ?_)
  · (first | exact d0 | (obtain ⟨_, _, _, _, hh5, _⟩ := hl3; exact (five_cells hh5).1.1))
  clear hK K
  try simp only [Act.put, List.setIfInBounds_toArray, List.set_cons_zero, List.set_cons_succ]
  refine wpAnyH_ready (rs := [7]) (by kernel_rfl) (by simp) ?_
  refine AllReadyH.cons rfl (fun K hK => ?_) AllReadyH.nil
  go_simp
  refine (Append_ok hd2 hcsx hroom).mono ?_
  rintro e w3 ⟨o4, rfl, hd3, hor, hc3⟩
  have z2 := k2.size
  have hl3 := hl2.chg hc3 (fun hh => hh.elim (fun e => P1.out e) (fun e => (P2.out L e).1 rfl)) (fun k hk hh => hh.elim (fun e => (P3.out k hk).2.1 e) (fun e => (P3.out k hk).2.2 e))
  have hor2 : o4 = dOwn ∨ ∀ g, o4 = some g → w.heap.size ≤ g := hor.imp (fun e => e) (fun hg g e => by have := hg g e; omega)
  have a3 : Chg (fun k => k = D ∨ k = L ∨ dOwn = some k ∨ own = some k) w w3 := (k2.wide).trans hc3 (fun i _ h => h.elim (fun e => .inl e) (fun e => .inr (.inr (.inl e))))
  go_wp2_with fail
  refine hK.out _ _ ?_ (fun hHeld => ?_)
  · (first | exact d0 | (obtain ⟨_, _, _, _, hh5, _⟩ := hl3; exact (five_cells hh5).1.1))
  clear hK K
  try simp only [Act.put, List.setIfInBounds_toArray, List.set_cons_zero, List.set_cons_succ]
  refine take_at (i := 8) (some 7) (v := ?_) rfl rfl (by kernel_rfl) (by kernel_rfl) (by kernel_rfl) (fun _ _ _ h => h) (Or.inl ⟨by rfl, ?_⟩) (by assumption) ?_
  rotate_left
  · (intro wx hSw; go_simp; try (with_reducible rfl))
  try simp only [Act.put, List.setIfInBounds_toArray, List.set_cons_zero, List.set_cons_succ]
  refine wpAnyH_done (by kernel_rfl) ?_ _
  have hl30 := hl3
  have hL4 : ∀ i, o4 = some i → ¬ i = L := fun i hi e => by
    rcases hor2 with h0 | h0
    · exact (P2.out i (by rw [← h0, hi])).1 e
    · have := h0 i hi; omega
  have hX4 : ∀ i, o4 = some i → ¬ own = some i := fun i hi e => by
    rcases hor2 with h0 | h0
    · exact (P3.out i e).2.2 (by rw [← h0, hi])
    · have := h0 i hi; have := HOL.out i e; omega
  obtain ⟨-, -, A, cap, hh, hO⟩ := hl3
  obtain ⟨⟨c0, c1, c2, c3, c4⟩, hf⟩ := five_cells hh
  have f2 := hf 2
  have hcap := hO.2.1
  have g6 : (k : Int) ≤ (cap : Int) := by omega
  have kb : Chg (fun _ => False) w3 (w3.drew.alloc (.cells #[.string s] 9)) := ((Chg.refl (fun _ => False) w3).drew).alloc _
  have b1 := kb.cell c1 (fun h => h)
  have b2 := kb.cell c2 (fun h => h)
  have hOb := (hO.chg kb (fun _ _ h => h)).takeCap (k := k) hk
  rw [sv_take] at hOb
  have hsl := (Own.fresh w3.drew [.string s] 9 (by simp)).cs
  have hhb := kb.heap hh (fun h => h)
  have kc : Chg (fun _ => False) w3 ((w3.alloc (.cells #[.string s] 9)).drew) := ((Chg.refl (fun _ => False) w3).alloc _).drew
  have d1 := kc.cell c1 (fun h => h)
  have d2 := kc.cell c2 (fun h => h)
  have hOc := (hO.chg kc (fun _ _ h => h)).takeCap (k := k) hk
  rw [sv_take] at hOc
  have hsm := ((Own.fresh w3 [.string s] 9 (by simp)).chg ((Chg.refl (fun _ => False) _).drew) (fun _ _ h => h)).cs
  have hhc := kc.heap hh (fun h => h)
  clear hf hcsx
  go_wp2_with fail
  refine wp_region_held_drew (S := fun wx => wx.cell? ⟨L, 1, none⟩ = some (.int .i64 (f : Int))) (by kernel_rfl) c1 (fun hHeld => ?_)
  refine take_at (i := 0) (some 40) (v := ?_) rfl rfl (by kernel_rfl) (by kernel_rfl) (by kernel_rfl) (fun _ _ _ h => h) (Or.inl ⟨by rfl, ?_⟩) (by assumption) ?_
  rotate_left
  · (intro wx hSw; go_simp; try (with_reducible rfl))
  try simp only [Act.put, List.setIfInBounds_toArray, List.set_cons_zero, List.set_cons_succ]
  refine take_at (i := 1) (some 41) (v := ?_) rfl rfl (by kernel_rfl) (by kernel_rfl) (by kernel_rfl) (fun _ _ _ h => h) (Or.inl ⟨by rfl, ?_⟩) (by assumption) ?_
  rotate_left
  · (intro wx hSw; go_simp; try (with_reducible rfl))
  try simp only [Act.put, List.setIfInBounds_toArray, List.set_cons_zero, List.set_cons_succ]
  refine take_at (i := 2) (some 42) (v := ?_) rfl rfl (by kernel_rfl) (by kernel_rfl) (by kernel_rfl) (fun _ _ _ h => h) (Or.inl ⟨by rfl, ?_⟩) (by assumption) ?_
  rotate_left
  · (intro wx hSw; go_simp; try (with_reducible rfl))
  try simp only [Act.put, List.setIfInBounds_toArray, List.set_cons_zero, List.set_cons_succ]
  refine take_at (i := 3) (some 43) (v := ?_) rfl rfl (by kernel_rfl) (by kernel_rfl) (by kernel_rfl) (fun _ _ _ h => h) (Or.inl ⟨by rfl, ?_⟩) (by assumption) ?_
  rotate_left
  · (intro wx hSw; go_simp; try (with_reducible rfl))
  try simp only [Act.put, List.setIfInBounds_toArray, List.set_cons_zero, List.set_cons_succ]
  refine take_at (i := 5) (some 45) (v := ?_) rfl rfl (by kernel_rfl) (by kernel_rfl) (by kernel_rfl) (fun _ _ _ h => h) (Or.inl ⟨by rfl, ?_⟩) (by assumption) ?_
  rotate_left
  · (intro wx hSw; go_simp; try (with_reducible rfl))
  try simp only [Act.put, List.setIfInBounds_toArray, List.set_cons_zero, List.set_cons_succ]
  refine take_at (i := 6) (some 46) (v := ?_) rfl rfl (by kernel_rfl) (by kernel_rfl) (by kernel_rfl) (fun _ _ _ h => h) (Or.inl ⟨by rfl, ?_⟩) (by assumption) ?_
  rotate_left
  · (intro wx hSw; go_simp; try (with_reducible rfl))
  try simp only [Act.put, List.setIfInBounds_toArray, List.set_cons_zero, List.set_cons_succ]
  refine take_at (i := 7) (some 47) (v := ?_) rfl rfl (by kernel_rfl) (by kernel_rfl) (by kernel_rfl) (fun _ _ _ h => h) (Or.inl ⟨by rfl, ?_⟩) (by assumption) ?_
  rotate_left
  · (intro wx hSw; go_simp; try (with_reducible rfl))
  try simp only [Act.put, List.setIfInBounds_toArray, List.set_cons_zero, List.set_cons_succ]
  refine take_at (i := 8) (some 48) (v := ?_) rfl rfl (by kernel_rfl) (by kernel_rfl) (by kernel_rfl) (fun _ _ _ h => h) (Or.inl ⟨by rfl, ?_⟩) (by assumption) ?_
  rotate_left
  · (intro wx hSw; go_simp; try (with_reducible rfl))
  try simp only [Act.put, List.setIfInBounds_toArray, List.set_cons_zero, List.set_cons_succ]
  refine take_at (i := 9) (some 49) (v := ?_) rfl rfl (by kernel_rfl) (by kernel_rfl) (by kernel_rfl) (fun _ _ _ h => h) (Or.inl ⟨by rfl, ?_⟩) (by assumption) ?_
  rotate_left
  · (intro wx hSw; go_simp; try (with_reducible rfl))
  try simp only [Act.put, List.setIfInBounds_toArray, List.set_cons_zero, List.set_cons_succ]
  refine take_at (i := 10) (some 50) (v := ?_) rfl rfl (by kernel_rfl) (by kernel_rfl) (by kernel_rfl) (fun _ _ _ h => h) (Or.inl ⟨by rfl, ?_⟩) (by assumption) ?_
  rotate_left
  · (intro wx hSw; go_simp; try (with_reducible rfl))
  try simp only [Act.put, List.setIfInBounds_toArray, List.set_cons_zero, List.set_cons_succ]
  refine take_at (i := 11) (some 51) (v := ?_) rfl rfl (by kernel_rfl) (by kernel_rfl) (by kernel_rfl) (fun _ _ _ h => h) (Or.inl ⟨by rfl, ?_⟩) (by assumption) ?_
  rotate_left
  · (intro wx hSw; go_simp; try (with_reducible rfl))
  try simp only [Act.put, List.setIfInBounds_toArray, List.set_cons_zero, List.set_cons_succ]
  refine take_at (i := 12) (some 52) (v := ?_) rfl rfl (by kernel_rfl) (by kernel_rfl) (by kernel_rfl) (fun _ _ _ h => h) (Or.inl ⟨by rfl, ?_⟩) (by assumption) ?_
  rotate_left
  · (intro wx hSw; go_simp; try (with_reducible rfl))
  try simp only [Act.put, List.setIfInBounds_toArray, List.set_cons_zero, List.set_cons_succ]
  refine take_at (i := 13) (some 53) (v := ?_) rfl rfl (by kernel_rfl) (by kernel_rfl) (by kernel_rfl) (fun _ _ _ h => h) (Or.inl ⟨by rfl, ?_⟩) (by assumption) ?_
  rotate_left
  · (intro wx hSw; go_simp; try (with_reducible rfl))
  try simp only [Act.put, List.setIfInBounds_toArray, List.set_cons_zero, List.set_cons_succ]
  refine take_at (i := 14) (some 54) (v := ?_) rfl rfl (by kernel_rfl) (by kernel_rfl) (by kernel_rfl) (fun _ _ _ h => h) (Or.inl ⟨by rfl, ?_⟩) (by assumption) ?_
  rotate_left
  · (intro wx hSw; go_simp; try (with_reducible rfl))
  try simp only [Act.put, List.setIfInBounds_toArray, List.set_cons_zero, List.set_cons_succ]
  refine take_at (i := 15) (some 55) (v := ?_) rfl rfl (by kernel_rfl) (by kernel_rfl) (by kernel_rfl) (fun _ _ _ h => h) (Or.inl ⟨by rfl, ?_⟩) (by assumption) ?_
  rotate_left
  · (intro wx hSw; go_simp; try (with_reducible rfl))
  try simp only [Act.put, List.setIfInBounds_toArray, List.set_cons_zero, List.set_cons_succ]
  refine take_at (i := 16) (some 56) (v := ?_) rfl rfl (by kernel_rfl) (by kernel_rfl) (by kernel_rfl) (fun _ _ _ h => h) (Or.inl ⟨by rfl, ?_⟩) (by assumption) ?_
  rotate_left
  · (intro wx hSw; go_simp; try (with_reducible rfl))
  try simp only [Act.put, List.setIfInBounds_toArray, List.set_cons_zero, List.set_cons_succ]
  refine take_at (i := 18) (some 58) (v := ?_) rfl rfl (by kernel_rfl) (by kernel_rfl) (by kernel_rfl) (fun _ _ _ h => h) (Or.inl ⟨by rfl, ?_⟩) (by assumption) ?_
  rotate_left
  · (intro wx hSw; go_simp; try (with_reducible rfl))
  try simp only [Act.put, List.setIfInBounds_toArray, List.set_cons_zero, List.set_cons_succ]
  refine wpAnyH_ready (rs := [4, 19]) (by kernel_rfl) (by simp) ?_
  refine AllReadyH.cons rfl (fun K hK => ?_) ?_
  · skip
    go_simp
    refine hK.out _ _ ?_ (fun hHeld => ?_)
    · (first | exact c1 | exact b1 | exact d1 | exact e1 | exact e1s _)
    clear hK K
    try simp only [Act.put, List.setIfInBounds_toArray, List.set_cons_zero, List.set_cons_succ]
    refine take_at (i := 17) (some 57) (v := ?_) rfl rfl (by kernel_rfl) (by kernel_rfl) (by kernel_rfl) (fun _ _ _ h => h) (Or.inl ⟨by rfl, ?_⟩) (by assumption) ?_
    rotate_left
    · (intro wx hSw; go_simp; try (with_reducible rfl))
    try simp only [Act.put, List.setIfInBounds_toArray, List.set_cons_zero, List.set_cons_succ]
    refine wpAnyH_ready (rs := [19]) (by kernel_rfl) (by simp) ?_
    refine AllReadyH.cons rfl (fun K hK => ?_) AllReadyH.nil
    go_simp
    refine hK.out _ _ ?_ (fun hHeld => ?_)
    · (first | exact c1 | exact b1 | exact d1 | exact e1 | exact e1s _)
    clear hK K
    try simp only [Act.put, List.setIfInBounds_toArray, List.set_cons_zero, List.set_cons_succ]
    refine wpAnyH_ready (rs := [20]) (by kernel_rfl) (by simp) ?_
    refine AllReadyH.cons rfl (fun K hK => ?_) AllReadyH.nil
    refine step_append rfl _ _ 22 22 rfl 9 16 strsApp own A k k (sv (rs.take k)) [.string s] _ rfl rfl (by first | exact hOb | exact hOc) (by first | exact Src.slice hsl | exact Src.slice hsm) (by intro u hu; simp at hu; subst hu; rfl) (k + 1) rfl (by have := HK1.out; omega) (by have := HK1.out; omega) ?_
    intro o6 A6 c6 w6 hO6 hor6 hc6
    have hh6 : w6.heap[L]? = some (.cells #[.pointer (some ⟨D, 0, none⟩), .int .i64 (f : Int), .slice A rs.length cap, .string snap, .string note] 62 (0, 0)) := by first | exact hc6.heap hhb (fun e => (P3.out L e).1 rfl) | exact hc6.heap hhc (fun e => (P3.out L e).1 rfl)
    obtain ⟨⟨_, e1, e2, _, _⟩, hf6⟩ := five_cells hh6
    have ff6 := hf6 2
    have e1s : ∀ u, (w6.setCell ⟨L, 2, none⟩ u).cell? ⟨L, 1, none⟩ = some (.int .i64 (f : Int)) := fun u => (five_cells (five_set2 hh6 u)).1.2.1
    refine hK.out _ _ ?_ (fun hHeld => ?_)
    · (first | exact c1 | exact b1 | exact d1 | exact e1 | exact e1s _)
    clear hK K
    try simp only [Act.put, List.setIfInBounds_toArray, List.set_cons_zero, List.set_cons_succ]
    refine take_at (i := 21) (some 61) (v := ?_) rfl rfl (by kernel_rfl) (by kernel_rfl) (by kernel_rfl) (fun _ _ _ h => h) (Or.inl ⟨by rfl, ?_⟩) (by assumption) ?_
    rotate_left
    · (intro wx hSw; go_simp; try (with_reducible rfl))
    try simp only [Act.put, List.setIfInBounds_toArray, List.set_cons_zero, List.set_cons_succ]
    refine take_at (i := 22) (some 62) (v := ?_) rfl rfl (by kernel_rfl) (by kernel_rfl) (by kernel_rfl) (fun _ _ _ h => h) (Or.inl ⟨by rfl, ?_⟩) (by assumption) ?_
    rotate_left
    · (intro wx hSw; go_simp; try (with_reducible rfl))
    try simp only [Act.put, List.setIfInBounds_toArray, List.set_cons_zero, List.set_cons_succ]
    refine wpAnyH_ready (rs := [23]) (by kernel_rfl) (by simp) ?_
    refine AllReadyH.cons rfl (fun K hK => ?_) AllReadyH.nil
    go_simp
    refine hK.out _ _ ?_ (fun hHeld => ?_)
    · (first | exact c1 | exact b1 | exact d1 | exact e1 | exact e1s _)
    clear hK K
    try simp only [Act.put, List.setIfInBounds_toArray, List.set_cons_zero, List.set_cons_succ]
    refine wpAnyH_done (by kernel_rfl) ?_ _
    have kf : Chg (fun i => i = L ∨ own = some i) w3 (w6.setCell ⟨L, 2, none⟩ (.slice A6 (k + 1) c6)) := by first | exact ((kb.wide (T := fun i => i = L ∨ own = some i)).trans hc6 (fun i _ e => .inr e)).setIn (.inl rfl) _ _ | exact ((kc.wide (T := fun i => i = L ∨ own = some i)).trans hc6 (fun i _ e => .inr e)).setIn (.inl rfl) _ _
    have hd6 := hd3.chg kf (fun e => e.elim (fun e => P1.out e.symm) (fun e => (P3.out D e).2.1 rfl)) (fun i hi e => e.elim (fun e => hL4 i hi e) (fun e => hX4 i hi e))
    have zb := kb.size
    have zc := kc.size
    have z3 := a3.size
    have hlen : (rs.take k ++ [s]).length = k + 1 := by rw [List.length_append, List.length_take, Nat.min_eq_left hk]; rfl
    have hsv : sv (rs.take k ++ [s]) = sv (rs.take k) ++ [.string s] := by simp [sv]
    have hn6 : o6 = own ∨ ∀ g, o6 = some g → w.heap.size ≤ g := by
      rcases hor6 with h0 | h0
      · exact .inl h0
      · exact .inr fun g hg => by rw [h0] at hg; injection hg with hg; omega
    have ho6 := hO6.setOther (p := ⟨L, 2, none⟩) (hO6.ne_ hh6 (by decide)) (.slice A6 (k + 1) c6)
    have hw6 := five_set2 hh6 (.slice A6 (k + 1) c6)
    have HSV := Lib.hid hsv
    have HLEN := Lib.hid hlen
    clear hsv hlen
    go_wp2_with fail
    go_ret
    refine ⟨o6, o4, rfl, hd6, ⟨H1.out, by rw [HLEN.out]; have := HK1.out; omega, A6, c6, by rw [HLEN.out]; exact hw6, by rw [HLEN.out, HSV.out]; exact ho6⟩, hn6, hor2, a3.trans kf (fun i _ e => e.elim (fun e => .inr (.inl e)) (fun e => .inr (.inr (.inr e))))⟩
  refine AllReadyH.cons rfl (fun K hK => ?_) ?_
  · skip
    go_simp
    refine hK.out _ _ ?_ (fun hHeld => ?_)
    · (first | exact c1 | exact b1 | exact d1 | exact e1 | exact e1s _)
    clear hK K
    try simp only [Act.put, List.setIfInBounds_toArray, List.set_cons_zero, List.set_cons_succ]
    refine wpAnyH_ready (rs := [4]) (by kernel_rfl) (by simp) ?_
    refine AllReadyH.cons rfl (fun K hK => ?_) AllReadyH.nil
    go_simp
    refine hK.out _ _ ?_ (fun hHeld => ?_)
    · (first | exact c1 | exact b1 | exact d1 | exact e1 | exact e1s _)
    clear hK K
    try simp only [Act.put, List.setIfInBounds_toArray, List.set_cons_zero, List.set_cons_succ]
    refine take_at (i := 17) (some 57) (v := ?_) rfl rfl (by kernel_rfl) (by kernel_rfl) (by kernel_rfl) (fun _ _ _ h => h) (Or.inl ⟨by rfl, ?_⟩) (by assumption) ?_
    rotate_left
    · (intro wx hSw; go_simp; try (with_reducible rfl))
    try simp only [Act.put, List.setIfInBounds_toArray, List.set_cons_zero, List.set_cons_succ]
    refine wpAnyH_ready (rs := [20]) (by kernel_rfl) (by simp) ?_
    refine AllReadyH.cons rfl (fun K hK => ?_) AllReadyH.nil
    refine step_append rfl _ _ 22 22 rfl 9 16 strsApp own A k k (sv (rs.take k)) [.string s] _ rfl rfl (by first | exact hOb | exact hOc) (by first | exact Src.slice hsl | exact Src.slice hsm) (by intro u hu; simp at hu; subst hu; rfl) (k + 1) rfl (by have := HK1.out; omega) (by have := HK1.out; omega) ?_
    intro o6 A6 c6 w6 hO6 hor6 hc6
    have hh6 : w6.heap[L]? = some (.cells #[.pointer (some ⟨D, 0, none⟩), .int .i64 (f : Int), .slice A rs.length cap, .string snap, .string note] 62 (0, 0)) := by first | exact hc6.heap hhb (fun e => (P3.out L e).1 rfl) | exact hc6.heap hhc (fun e => (P3.out L e).1 rfl)
    obtain ⟨⟨_, e1, e2, _, _⟩, hf6⟩ := five_cells hh6
    have ff6 := hf6 2
    have e1s : ∀ u, (w6.setCell ⟨L, 2, none⟩ u).cell? ⟨L, 1, none⟩ = some (.int .i64 (f : Int)) := fun u => (five_cells (five_set2 hh6 u)).1.2.1
    refine hK.out _ _ ?_ (fun hHeld => ?_)
    · (first | exact c1 | exact b1 | exact d1 | exact e1 | exact e1s _)
    clear hK K
    try simp only [Act.put, List.setIfInBounds_toArray, List.set_cons_zero, List.set_cons_succ]
    refine take_at (i := 21) (some 61) (v := ?_) rfl rfl (by kernel_rfl) (by kernel_rfl) (by kernel_rfl) (fun _ _ _ h => h) (Or.inl ⟨by rfl, ?_⟩) (by assumption) ?_
    rotate_left
    · (intro wx hSw; go_simp; try (with_reducible rfl))
    try simp only [Act.put, List.setIfInBounds_toArray, List.set_cons_zero, List.set_cons_succ]
    refine take_at (i := 22) (some 62) (v := ?_) rfl rfl (by kernel_rfl) (by kernel_rfl) (by kernel_rfl) (fun _ _ _ h => h) (Or.inl ⟨by rfl, ?_⟩) (by assumption) ?_
    rotate_left
    · (intro wx hSw; go_simp; try (with_reducible rfl))
    try simp only [Act.put, List.setIfInBounds_toArray, List.set_cons_zero, List.set_cons_succ]
    refine wpAnyH_ready (rs := [23]) (by kernel_rfl) (by simp) ?_
    refine AllReadyH.cons rfl (fun K hK => ?_) AllReadyH.nil
    go_simp
    refine hK.out _ _ ?_ (fun hHeld => ?_)
    · (first | exact c1 | exact b1 | exact d1 | exact e1 | exact e1s _)
    clear hK K
    try simp only [Act.put, List.setIfInBounds_toArray, List.set_cons_zero, List.set_cons_succ]
    refine wpAnyH_done (by kernel_rfl) ?_ _
    have kf : Chg (fun i => i = L ∨ own = some i) w3 (w6.setCell ⟨L, 2, none⟩ (.slice A6 (k + 1) c6)) := by first | exact ((kb.wide (T := fun i => i = L ∨ own = some i)).trans hc6 (fun i _ e => .inr e)).setIn (.inl rfl) _ _ | exact ((kc.wide (T := fun i => i = L ∨ own = some i)).trans hc6 (fun i _ e => .inr e)).setIn (.inl rfl) _ _
    have hd6 := hd3.chg kf (fun e => e.elim (fun e => P1.out e.symm) (fun e => (P3.out D e).2.1 rfl)) (fun i hi e => e.elim (fun e => hL4 i hi e) (fun e => hX4 i hi e))
    have zb := kb.size
    have zc := kc.size
    have z3 := a3.size
    have hlen : (rs.take k ++ [s]).length = k + 1 := by rw [List.length_append, List.length_take, Nat.min_eq_left hk]; rfl
    have hsv : sv (rs.take k ++ [s]) = sv (rs.take k) ++ [.string s] := by simp [sv]
    have hn6 : o6 = own ∨ ∀ g, o6 = some g → w.heap.size ≤ g := by
      rcases hor6 with h0 | h0
      · exact .inl h0
      · exact .inr fun g hg => by rw [h0] at hg; injection hg with hg; omega
    have ho6 := hO6.setOther (p := ⟨L, 2, none⟩) (hO6.ne_ hh6 (by decide)) (.slice A6 (k + 1) c6)
    have hw6 := five_set2 hh6 (.slice A6 (k + 1) c6)
    have HSV := Lib.hid hsv
    have HLEN := Lib.hid hlen
    clear hsv hlen
    go_wp2_with fail
    go_ret
    refine ⟨o6, o4, rfl, hd6, ⟨H1.out, by rw [HLEN.out]; have := HK1.out; omega, A6, c6, by rw [HLEN.out]; exact hw6, by rw [HLEN.out, HSV.out]; exact ho6⟩, hn6, hor2, a3.trans kf (fun i _ e => e.elim (fun e => .inr (.inl e)) (fun e => .inr (.inr (.inr e))))⟩
  exact AllReadyH.nil
end Go.Proofs.Ytlnjadnddldjeaa
