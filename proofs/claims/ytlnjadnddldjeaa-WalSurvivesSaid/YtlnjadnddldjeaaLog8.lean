/-
  Contract of a log's image.
-/
import Derived.Test.YtlnjadnddldjeaaLog7
import Derived.Test.YtlnjadnddldjeaaWalMath
namespace Go.Proofs.Ytlnjadnddldjeaa
open Go.RowKit
set_option linter.unusedVariables false
set_option linter.unusedSimpArgs false

theorem sv_get {rs : List ByteArray} {k : Nat} (hk : k < rs.length) : (sv rs)[k]? = some (.string rs[k]) := by simp [sv, hk]
theorem take_snoc_sv {rs : List ByteArray} {k : Nat} (hk : k < rs.length) : rs.take (k + 1) = rs.take k ++ [rs[k]] := List.take_succ_eq_append_getElem hk
/-- what stays of image's loop -/
def ImgAt (w : World) (D n : Nat) (sn note : ByteArray) (qs : List ByteArray) (k M : Nat) (A : Option Addr) (c : Nat) (wr : World) : Prop :=
  ∃ own, Own wr 5 own A M c (bv (eb (imgs n sn note (qs.take k)))) ∧ (∀ g, own = some g → D ≤ g) ∧ Chg (fun k => D ≤ k) w wr ∧ (eb (imgs n sn note (qs.take k))).length = M

set_option maxRecDepth 100000 in
set_option maxHeartbeats 2000000 in
theorem image_calls {w : World} {L D f n : Nat} {own : Option Nat} {rs qs : List ByteArray} {snap note sn : ByteArray} {S : Nat → Prop} {A : Option Addr} {m c : Nat} (h : LogAt w L D own f rs snap note)
    (hq : Cs w S A m (sv qs)) (hS : ∀ k, S k → k < w.heap.size) (hn : n ≤ 1073741824) (hm : m ≤ 1000000) (hroom : (eb (imgs n sn note qs)).length ≤ 4194304) :
    Calls Try.prog 41 #[.pointer (some ⟨L, 0, none⟩), .int .i64 (n : Int), .string sn, .slice A m c] w (Cloned w (eb (imgs n sn note qs)).length (eb (imgs n sn note qs))) := by
  obtain ⟨h1, h2, B, cap, hh, hO⟩ := h
  obtain ⟨⟨c0, c1, c2, c3, c4⟩, hf⟩ := five_cells hh
  have hml : qs.length = m := by rw [← sv_length]; exact hq.1
  have HML := Lib.hid hml
  obtain ⟨W, hW⟩ : ∃ W, w.heap.size = W := ⟨_, rfl⟩
  have HW := Lib.hid hW
  rw [hW] at hS
  have HS := Lib.hid hS
  have HQ := Lib.hid hq
  have hle : ∀ k, (eb (imgs n sn note (qs.take k))).length ≤ 4194304 := fun k => Nat.le_trans (imgs_take_le n sn note qs k) hroom
  have h00 := hle 0
  rw [List.take_zero, imgs_nil_length] at h00
  have HLE := Lib.hid hle
  have hpos : ∀ (k : Nat) (s : ByteArray), qs[k]? = some s → s.size ≤ 4194304 := fun k s hs => by
    have hk := (List.getElem?_eq_some_iff.1 hs)
    have := hle (k + 1)
    rw [take_snoc_sv hk.1, imgs_snoc, eb_snoc_length, hk.2] at this
    simp only [Ent.size] at this; omega
  have HPOS := Lib.hid hpos
  have hs1 : sn.size ≤ 80000000 := by omega
  have hs2 : note.size ≤ 80000000 := by omega
  clear hh hf hO hml hW hS hle hpos hroom h1 h2 hq
  go_enter Try.func41, Try.ntmps41
  go_wp2_with fail
  refine wp_region_held_drew (S := fun wx => wx.cell? ⟨L, 4, none⟩ = some (.string note)) (by kernel_rfl) c4 (fun hHeld => ?_)
  refine take_at (i := 0) (some 12) (v := ?_) rfl rfl (by kernel_rfl) (by kernel_rfl) (by kernel_rfl) (fun _ _ _ h => h) (Or.inl ⟨by rfl, ?_⟩) (by assumption) ?_
  rotate_left
  · (intro wx hSw; go_simp; try (with_reducible rfl))
  try simp only [Act.put, List.setIfInBounds_toArray, List.set_cons_zero, List.set_cons_succ]
  refine take_at (i := 1) (some 13) (v := ?_) rfl rfl (by kernel_rfl) (by kernel_rfl) (by kernel_rfl) (fun _ _ _ h => h) (Or.inl ⟨by rfl, ?_⟩) (by assumption) ?_
  rotate_left
  · (intro wx hSw; go_simp; try (with_reducible rfl))
  try simp only [Act.put, List.setIfInBounds_toArray, List.set_cons_zero, List.set_cons_succ]
  refine take_at (i := 3) (some 15) (v := ?_) rfl rfl (by kernel_rfl) (by kernel_rfl) (by kernel_rfl) (fun _ _ _ h => h) (Or.inl ⟨by rfl, ?_⟩) (by assumption) ?_
  rotate_left
  · (intro wx hSw; go_simp; try (with_reducible rfl))
  try simp only [Act.put, List.setIfInBounds_toArray, List.set_cons_zero, List.set_cons_succ]
  refine take_at (i := 4) (some 16) (v := ?_) rfl rfl (by kernel_rfl) (by kernel_rfl) (by kernel_rfl) (fun _ _ _ h => h) (Or.inl ⟨by rfl, ?_⟩) (by assumption) ?_
  rotate_left
  · (intro wx hSw; go_simp; try (with_reducible rfl))
  try simp only [Act.put, List.setIfInBounds_toArray, List.set_cons_zero, List.set_cons_succ]
  refine take_at (i := 5) (some 17) (v := ?_) rfl rfl (by kernel_rfl) (by kernel_rfl) (by kernel_rfl) (fun _ _ _ h => h) (Or.inl ⟨by rfl, ?_⟩) (by assumption) ?_
  rotate_left
  · (intro wx hSw; go_simp; try (with_reducible rfl))
  try simp only [Act.put, List.setIfInBounds_toArray, List.set_cons_zero, List.set_cons_succ]
  refine take_at (i := 6) (some 18) (v := ?_) rfl rfl (by kernel_rfl) (by kernel_rfl) (by kernel_rfl) (fun _ _ _ h => h) (Or.inl ⟨by rfl, ?_⟩) (by assumption) ?_
  rotate_left
  · (intro wx hSw; go_simp; try (with_reducible rfl))
  try simp only [Act.put, List.setIfInBounds_toArray, List.set_cons_zero, List.set_cons_succ]
  refine wpAnyH_ready (rs := [2]) (by kernel_rfl) (by simp) ?_
  refine AllReadyH.cons rfl (fun K hK => ?_) AllReadyH.nil
  go_simp
  refine (written_calls _ 3 (n : Int) sn hs1).mono ?_
  rintro e w2 ⟨o2, A2, c2x, rfl, hw2, hn2, hc2⟩
  have k2 : Chg (fun _ => False) w w2 := by first | exact ((Chg.refl (fun _ => False) w).drew).trans hc2 (fun _ _ h => h) | exact ((Chg.refl (fun _ => False) w).drewN _).trans hc2 (fun _ _ h => h)
  have hn2 : ∀ g, o2 = some g → w.heap.size ≤ g := hn2
  have d4 := k2.cell c4 (fun h => h)
  have z2 := k2.size
  go_wp2_with fail
  refine hK.out _ _ ?_ (fun hHeld => ?_)
  · (first | exact d4 | exact e4 | exact g4)
  clear hK K
  try simp only [Act.put, List.setIfInBounds_toArray, List.set_cons_zero, List.set_cons_succ]
  refine wpAnyH_ready (rs := [7]) (by kernel_rfl) (by simp) ?_
  refine AllReadyH.cons rfl (fun K hK => ?_) AllReadyH.nil
  go_simp
  refine (written_calls _ 2 0 note hs2).mono ?_
  rintro e w3 ⟨o3, A3, c3x, rfl, hw3, hn3, hc3⟩
  have k3 : Chg (fun _ => False) w w3 := k2.trans hc3 (fun _ _ h => h)
  have e4 := k3.cell c4 (fun h => h)
  have z3 := hc3.size
  have hw2b := hw2.chg hc3 (fun _ _ h => h)
  go_wp2_with fail
  refine hK.out _ _ ?_ (fun hHeld => ?_)
  · (first | exact d4 | exact e4 | exact g4)
  clear hK K
  try simp only [Act.put, List.setIfInBounds_toArray, List.set_cons_zero, List.set_cons_succ]
  refine wpAnyH_ready (rs := [8]) (by kernel_rfl) (by simp) ?_
  refine AllReadyH.cons rfl (fun K hK => ?_) AllReadyH.nil
  refine step_append rfl _ _ 31 31 rfl 5 1 bytesApp o2 A2 (sn.size + 21) c2x _ (bv (fframe (wrec 2 0 note.data.toList))) _ rfl rfl hw2b (by exact Src.slice hw3.cs) (bv_one _) (sn.size + 21 + (note.size + 21)) (by rw [bv_length, fframe_length, wrec_length, Array.length_toList]; rfl) (by omega) (by omega) ?_
  intro o4 A4 c4' w4 hO4 hor4 hc4
  have a4 : Chg (fun k => W ≤ k) w w4 := (k3.wide).trans hc4 (fun i _ h => by have := hn2 i h; have := HW.out; omega)
  have hOn4 : ∀ g, o4 = some g → W ≤ g := fun g hg => by
    rcases hor4 with h0 | h0
    · have := hn2 g (by rw [← h0, hg]); have := HW.out; omega
    · rw [h0] at hg; injection hg with hg; have := HW.out; omega
  have g4 := hc4.cell e4 (fun e => by have := hn2 _ e; have := World.block_lt_of_cell? w _ c4; omega)
  go_wp2_with fail
  refine hK.out _ _ ?_ (fun hHeld => ?_)
  · (first | exact d4 | exact e4 | exact g4)
  clear hK K
  try simp only [Act.put, List.setIfInBounds_toArray, List.set_cons_zero, List.set_cons_succ]
  refine take_at (i := 9) (some 9) (v := ?_) rfl rfl (by kernel_rfl) (by kernel_rfl) (by kernel_rfl) (fun _ _ _ h => h) (Or.inl ⟨by rfl, ?_⟩) (by assumption) ?_
  rotate_left
  · (intro wx hSw; go_simp; try (with_reducible rfl))
  try simp only [Act.put, List.setIfInBounds_toArray, List.set_cons_zero, List.set_cons_succ]
  refine wpAnyH_done (by kernel_rfl) ?_ _
  have hE2 : fframe (wrec 3 (n : Int) sn.data.toList) ++ fframe (wrec 2 0 note.data.toList) = eb (imgs n sn note (qs.take 0)) := by
    rw [List.take_zero]; exact (by rw [eb_append, eb_one, eb_one] : _ = eb ([Ent.base n sn] ++ [Ent.note note]))
  have hL2 : (eb (imgs n sn note (qs.take 0))).length = sn.size + 21 + (note.size + 21) := by rw [List.take_zero, imgs_nil_length]
  rw [← bv_append, hE2] at hO4
  have HI0 : ImgAt w W n sn note qs 0 (sn.size + 21 + (note.size + 21)) A4 c4' w4 := ⟨o4, hO4, hOn4, a4, hL2⟩
  have HI0 := Lib.hid HI0
  clear hE2 hL2 hO4 a4
  go_wp2_with fail
  go_loopw [9, 23] (fun o i wr => ∃ (k M : Nat) (A' : Option Addr) (c' : Nat), o = .slice A' M c' ∧ i = .int .i64 (k : Int) ∧ k ≤ m ∧ Hid (ImgAt w W n sn note qs k M A' c' wr)) (fun _ i _ => m - (intOf i).toNat)
  case atStart => exact ⟨0, _, A4, c4', rfl, rfl, Nat.zero_le _, HI0⟩
  case round =>
    obtain ⟨k, M, A', c', rfl, rfl, hk, HI⟩ := hrel
    obtain ⟨w0, rfl⟩ : ∃ x : World, x = wr := ⟨_, rfl⟩
    by_cases hlt : k < m
    · have hkq : k < qs.length := by rw [HML.out]; exact hlt
      obtain ⟨s, hs⟩ : ∃ s, qs[k]? = some s := ⟨_, List.getElem?_eq_getElem hkq⟩
      have hsz := HPOS.out k s hs
      have hsv : (sv qs)[k]? = some (.string s) := by simp [sv, hs]
      obtain ⟨own', hO', hOn', a', hM'⟩ := HI.out
      obtain ⟨b, off, hA, hb, hcell⟩ := (HQ.out.chg a' (fun k hk hs => by have := HS.out k hs; omega)).2 (by omega)
      subst hA
      have hcx := hcell k _ hsv
      have hM2 : M + (s.size + 21) ≤ 4194304 := by
        have := HLE.out (k + 1)
        rw [take_snoc_sv hkq, imgs_snoc, eb_snoc_length, hM'] at this
        have e := (List.getElem?_eq_some_iff.1 hs).2
        rw [e] at this
        simp only [Ent.size] at this; omega
      have hsn : eb (imgs n sn note (qs.take (k + 1))) = eb (imgs n sn note (qs.take k)) ++ fframe (wrec 1 ((n : Int) + (k : Int)) s.data.toList) := by
        rw [take_snoc_sv hkq, imgs_snoc, eb_append, eb_one, (List.getElem?_eq_some_iff.1 hs).2, List.length_take, Nat.min_eq_left (Nat.le_of_lt hkq)]
        simp only [Ent.bytes]
        rw [Int.natCast_add]
      have HSN := Lib.hid hsn
      have HM2 := Lib.hid hM2
      have HMM := Lib.hid hM'
      have z1 := a'.size
      have hn0 : (0 : Int) ≤ (n : Int) + (k : Int) := by omega
      have hn1 : (n : Int) + (k : Int) ≤ 1074741824 := by omega
      clear hsv hcell hs hsn hM' hkq
      go_wp2_with fail
      refine (written_calls _ 1 _ s (by omega)).mono ?_
      rintro e w2 ⟨o2, A2, c2x, rfl, hw2, hn2, hc2⟩
      have z2 := hc2.size
      have hO2 := hO'.chg hc2 (fun _ _ h => h)
      have a2 := a'.trans hc2 (fun _ _ h => h.elim)
      clear hcx
      go_wp2_with (at_builtin; refine wpList_append rfl _ _ 31 31 rfl 5 1 bytesApp own' A' M c' _ (bv (fframe (wrec 1 ((n : Int) + (k : Int)) s.data.toList))) _ rfl rfl hO2 (by exact Src.slice hw2.cs) (bv_one _) (M + (s.size + 21)) (by rw [bv_length, fframe_length, wrec_length, Array.length_toList]; rfl) (by omega) (by omega) ?_)
      intro own3 A3 c3 w3 hO3 hor hchg
      rw [← bv_append, ← HSN.out] at hO3
      have a3 := a2.trans hchg (fun i _ h => hOn' i h)
      have hOn3 : ∀ g, own3 = some g → W ≤ g := fun g hg => by
        rcases hor with h0 | h0
        · exact hOn' g (by rw [← h0, hg])
        · rw [h0] at hg; injection hg with hg; have := HW.out; omega
      have hI3 : ImgAt w W n sn note qs (k + 1) (M + (s.size + 21)) A3 c3 w3 := ⟨own3, hO3, hOn3, a3, by rw [HSN.out, List.length_append, HMM.out, fframe_length, wrec_length, Array.length_toList]; rfl⟩
      have HI3 := Lib.hid hI3
      clear hI3 hO3 hOn3
      go_wp2_with fail
      go_roundw
      case rel => exact ⟨k + 1, M + (s.size + 21), A3, c3, rfl, by go_num, by omega, HI3⟩
      case measure => simp [intOf]; omega
    · have hkm : k = m := by omega
      subst hkm
      go_wp2_with fail
      go_ret
      obtain ⟨own', hO', hOn', a', hM'⟩ := HI.out
      rw [List.take_of_length_le (by rw [HML.out]; exact Nat.le_refl _)] at hO' hM'
      rw [hM']
      exact ⟨own', A', c', rfl, hO', fun g hg => by have := hOn' g hg; have := HW.out; omega, a'.new fun k hk h => by have := HW.out; omega⟩
end Go.Proofs.Ytlnjadnddldjeaa
