/-
  Contract of a log's Meta.
-/
import Derived.Test.YtlnjadnddldjeaaLog2
import Derived.BigQuiet
namespace Go.Proofs.Ytlnjadnddldjeaa
open Go.RowKit
set_option linter.unusedVariables false
set_option linter.unusedSimpArgs false

theorem log_apart {w : World} {L D f : Nat} {own dOwn : Option Nat} {rs : List ByteArray} {snap note : ByteArray} {bs : List UInt8} {safe : Nat} (h : LogAt w L D own f rs snap note) (hd : DiskAt w D dOwn bs safe) :
    ¬ L = D ∧ (∀ k, dOwn = some k → ¬ k = L ∧ ¬ k = D) ∧ (∀ k, own = some k → ¬ k = L ∧ ¬ k = D ∧ ¬ dOwn = some k) := by
  obtain ⟨h1, h2, A, cap, hh, hO⟩ := h
  obtain ⟨g1, g2, B, cap', gh, gO⟩ := hd
  refine ⟨fun e => ?_, fun k hk => ⟨fun e => gO.ne_ hh (by decide) (by rw [hk, e]), fun e => gO.ne_ gh (by decide) (by rw [hk, e])⟩, fun k hk => ⟨fun e => hO.ne_ hh (by decide) (by rw [hk, e]), fun e => hO.ne_ gh (by decide) (by rw [hk, e]), fun e => ?_⟩⟩
  · subst e
    rw [hh] at gh
    injection gh with gh
    injection gh with _ gt _
    exact absurd gt (by decide)
  · obtain ⟨cur, hb⟩ := hO.block hk
    exact gO.ne_ hb (by decide) e
theorem five_set4 {w : World} {D : Nat} {x y z v u : Value} {t : TypeId} (h : w.heap[D]? = some (.cells #[x, y, z, v, u] t (0, 0))) (a : Value) : (w.setCell ⟨D, 4, none⟩ a).heap[D]? = some (.cells #[x, y, z, v, a] t (0, 0)) :=
  heap_setCell_same w D 4 _ _ a h

/-- what Meta and Put leave on the disk -/
def Kept21 (w : World) (L D : Nat) (own dOwn : Option Nat) (bs : List UInt8) (safe : Nat) (f : Nat) (rs : List ByteArray) (snap note : ByteArray) (e : Ending) (w' : World) : Prop :=
  ∃ own' dOwn', e = .returned (.int .i64 0) ∧ DiskAt w' D dOwn' bs safe ∧ LogAt w' L D own' f rs snap note ∧ (own' = own ∨ ∀ g, own' = some g → w.heap.size ≤ g) ∧ (dOwn' = dOwn ∨ ∀ g, dOwn' = some g → w.heap.size ≤ g) ∧ Chg (fun k => k = D ∨ k = L ∨ dOwn = some k ∨ own = some k) w w'

set_option maxRecDepth 100000 in
theorem Meta_ok {w : World} {L D f : Nat} {own dOwn : Option Nat} {rs : List ByteArray} {snap note s : ByteArray} {bs : List UInt8} {safe : Nat} (h : LogAt w L D own f rs snap note) (hd : DiskAt w D dOwn bs safe) (hs : s.size ≤ 65536) (hroom : bs.length + (s.size + 21) ≤ 4194304) :
    Calls Try.prog 24 #[.pointer (some ⟨L, 0, none⟩), .string s] w (Kept21 w L D own dOwn (bs ++ fframe (wrec 2 0 s.data.toList)) safe f rs snap s) := by
  obtain ⟨p1, p2, p3⟩ := log_apart h hd
  have P1 := Lib.hid p1
  have P2 := Lib.hid p2
  have P3 := Lib.hid p3
  have hl := h
  obtain ⟨h1, h2, A, cap, hh, hO⟩ := h
  obtain ⟨⟨c0, c1, c2, c3, c4⟩, hf⟩ := five_cells hh
  have f4 := hf 4
  have hs' : ¬ (65536 : Int) < (s.size : Int) := by omega
  clear hh hf p1 p2 p3
  go_enter Try.func24, Try.ntmps24
  go_wp2_with fail
  refine wp_region_held_drew (S := fun wx => wx.cell? ⟨L, 0, none⟩ = some (.pointer (some ⟨D, 0, none⟩))) (by kernel_rfl) c0 (fun hHeld => ?_)
  refine take_at (i := 0) (some 9) (v := ?_) rfl rfl (by kernel_rfl) (by kernel_rfl) (by kernel_rfl) (fun _ _ _ h => h) (Or.inl ⟨by rfl, ?_⟩) (by assumption) ?_
  rotate_left
  · (intro wx hSw; go_simp; try (with_reducible rfl))
  try simp only [Act.put, List.setIfInBounds_toArray, List.set_cons_zero, List.set_cons_succ]
  refine take_at (i := 1) (some 10) (v := ?_) rfl rfl (by kernel_rfl) (by kernel_rfl) (by kernel_rfl) (fun _ _ _ h => h) (Or.inl ⟨by rfl, ?_⟩) (by assumption) ?_
  rotate_left
  · (intro wx hSw; go_simp; try (with_reducible rfl))
  try simp only [Act.put, List.setIfInBounds_toArray, List.set_cons_zero, List.set_cons_succ]
  refine take_at (i := 2) (some 11) (v := ?_) rfl rfl (by kernel_rfl) (by kernel_rfl) (by kernel_rfl) (fun _ _ _ h => h) (Or.inl ⟨by rfl, ?_⟩) (by assumption) ?_
  rotate_left
  · (intro wx hSw; go_simp; try (with_reducible rfl))
  try simp only [Act.put, List.setIfInBounds_toArray, List.set_cons_zero, List.set_cons_succ]
  refine take_at (i := 3) (some 12) (v := ?_) rfl rfl (by kernel_rfl) (by kernel_rfl) (by kernel_rfl) (fun _ _ _ h => h) (Or.inl ⟨by rfl, ?_⟩) (by assumption) ?_
  rotate_left
  · (intro wx hSw; go_simp; try (with_reducible rfl))
  try simp only [Act.put, List.setIfInBounds_toArray, List.set_cons_zero, List.set_cons_succ]
  refine take_at (i := 4) (some 13) (v := ?_) rfl rfl (by kernel_rfl) (by kernel_rfl) (by kernel_rfl) (fun _ _ _ h => h) (Or.inl ⟨by rfl, ?_⟩) (by assumption) ?_
  rotate_left
  · (intro wx hSw; go_simp; try (with_reducible rfl))
  try simp only [Act.put, List.setIfInBounds_toArray, List.set_cons_zero, List.set_cons_succ]
  refine wpAnyH_ready (rs := [5]) (by kernel_rfl) (by simp) ?_
  refine AllReadyH.cons rfl (fun K hK => ?_) AllReadyH.nil
  go_simp
  refine (written_calls _ 2 0 s (by omega)).mono ?_
  rintro e w2 ⟨o2, A2, c2x, rfl, hw2, hn2, hc2⟩
  have k2 : Chg (fun _ => False) w w2 := ((Chg.refl (fun _ => False) w).drew).trans hc2 (fun _ _ h => h)
  have d0 := k2.cell c0 (fun h => h)
  have hl2 := hl.keep k2
  have hd2 := hd.chg k2 (fun h => h) (fun _ _ h => h)
  have hcsx := hw2.cs
  go_wp2_with fail
  refine hK.out _ _ ?_ (fun hHeld => ?_)
  · (first | exact d0 | (obtain ⟨_, _, _, _, hh5, _⟩ := hl3; exact (five_cells hh5).1.1))
  clear hK K
  try simp only [Act.put, List.setIfInBounds_toArray, List.set_cons_zero, List.set_cons_succ]
  refine wpAnyH_ready (rs := [6]) (by kernel_rfl) (by simp) ?_
  refine AllReadyH.cons rfl (fun K hK => ?_) AllReadyH.nil
  go_simp
  refine (Append_ok hd2 hcsx hroom).mono ?_
  rintro e w3 ⟨o4, rfl, hd3, hor, hc3⟩
  have z2 := k2.size
  have hl3 := hl2.chg hc3 (fun hh => hh.elim (fun e => P1.out e) (fun e => (P2.out L e).1 rfl)) (fun k hk hh => hh.elim (fun e => (P3.out k hk).2.1 e) (fun e => (P3.out k hk).2.2 e))
  have hor2 : o4 = dOwn ∨ ∀ g, o4 = some g → w.heap.size ≤ g := hor.imp (fun e => e) (fun hg g e => by have := hg g e; omega)
  have hL4 : ∀ k, o4 = some k → ¬ k = L := fun k hk e => by rcases hor2 with h0 | h0; exact (P2.out k (by rw [← h0, hk])).1 e; have := h0 k hk; have := hl.lt; omega
  have a3 : Chg (fun k => k = D ∨ k = L ∨ dOwn = some k ∨ own = some k) w w3 := (k2.wide).trans hc3 (fun i _ h => h.elim (fun e => .inl e) (fun e => .inr (.inr (.inl e))))
  have d0x := hl3
  go_wp2_with fail
  refine hK.out _ _ ?_ (fun hHeld => ?_)
  · (first | exact d0 | (obtain ⟨_, _, _, _, hh5, _⟩ := hl3; exact (five_cells hh5).1.1))
  clear hK K
  try simp only [Act.put, List.setIfInBounds_toArray, List.set_cons_zero, List.set_cons_succ]
  refine take_at (i := 7) (some 5) (v := ?_) rfl rfl (by kernel_rfl) (by kernel_rfl) (by kernel_rfl) (fun _ _ _ h => h) (Or.inl ⟨by rfl, ?_⟩) (by assumption) ?_
  rotate_left
  · (intro wx hSw; go_simp; try (with_reducible rfl))
  try simp only [Act.put, List.setIfInBounds_toArray, List.set_cons_zero, List.set_cons_succ]
  refine wpAnyH_done (by kernel_rfl) ?_ _
  clear hcsx
  obtain ⟨h1, h2, A, cap, hh, hO⟩ := hl3
  obtain ⟨⟨c0, c1, c2, c3, c4⟩, hf⟩ := five_cells hh
  have f4 := hf 4
  clear hf
  go_wp2_with fail
  go_ret
  refine ⟨own, o4, rfl, ?_, ⟨h1, h2, A, cap, five_set4 hh _, hO.setOther (fun e => (P3.out L e).1 rfl) _⟩, .inl rfl, hor2, (a3.setIn (.inr (.inl rfl)) _ _)⟩
  obtain ⟨g1, g2, B, cap', gh, gO⟩ := hd3
  exact ⟨g1, g2, B, cap', by rw [← gh]; exact (((Chg.refl (fun k => k = L) w3).setIn rfl 4 (.string s))).block D (lt_of_block gh) (fun e => P1.out e.symm), gO.setOther (fun e => hL4 L e rfl) _⟩
end Go.Proofs.Ytlnjadnddldjeaa
