/-
  Contracts of the document's Reader (confluenceref1): where it stands, and what each of its calls gives.
-/
import Derived.Test.YtiibkbkcncmjoaaRefWire
import Derived.Test.YtiibkbkcncmjoaaRead
import Derived.Test.YtiibkbkcncmjoaaRegion
namespace Go.Proofs.Ytiibkbkcncmjoaa
open Go.RowKit
set_option linter.unusedVariables false
set_option linter.unusedSimpArgs false

theorem five_cells {w : World} {D : Nat} {x y z v u : Value} {t : TypeId} (h : w.heap[D]? = some (.cells #[x, y, z, v, u] t (0, 0))) :
    (w.cell? ⟨D, 0, none⟩ = some x ∧ w.cell? ⟨D, 1, none⟩ = some y ∧ w.cell? ⟨D, 2, none⟩ = some z ∧ w.cell? ⟨D, 3, none⟩ = some v ∧ w.cell? ⟨D, 4, none⟩ = some u) ∧
      w.frozen? ⟨D, 0, none⟩ = false ∧ w.frozen? ⟨D, 1, none⟩ = false ∧ w.frozen? ⟨D, 2, none⟩ = false ∧ w.frozen? ⟨D, 3, none⟩ = false ∧ w.frozen? ⟨D, 4, none⟩ = false := by
  simp [World.cell?, World.frozen?, h]
theorem five_set1 {w : World} {D : Nat} {x y z v b : Value} {t : TypeId} (h : w.heap[D]? = some (.cells #[x, y, z, v, b] t (0, 0))) (u : Value) : (w.setCell ⟨D, 1, none⟩ u).heap[D]? = some (.cells #[x, u, z, v, b] t (0, 0)) := by
  rw [heap_setCell_same w D 1 _ t u h]; rfl
theorem five_set2 {w : World} {D : Nat} {x y z v b : Value} {t : TypeId} (h : w.heap[D]? = some (.cells #[x, y, z, v, b] t (0, 0))) (u : Value) : (w.setCell ⟨D, 2, none⟩ u).heap[D]? = some (.cells #[x, y, u, v, b] t (0, 0)) := by
  rw [heap_setCell_same w D 2 _ t u h]; rfl
theorem five_set3 {w : World} {D : Nat} {x y z v b : Value} {t : TypeId} (h : w.heap[D]? = some (.cells #[x, y, z, v, b] t (0, 0))) (u : Value) : (w.setCell ⟨D, 3, none⟩ u).heap[D]? = some (.cells #[x, y, z, u, b] t (0, 0)) := by
  rw [heap_setCell_same w D 3 _ t u h]; rfl
theorem five_set4 {w : World} {D : Nat} {x y z v b : Value} {t : TypeId} (h : w.heap[D]? = some (.cells #[x, y, z, v, b] t (0, 0))) (u : Value) : (w.setCell ⟨D, 4, none⟩ u).heap[D]? = some (.cells #[x, y, z, v, u] t (0, 0)) := by
  rw [heap_setCell_same w D 4 _ t u h]; rfl

/-- In w the document's Reader of the bytes l lies at R and stands at s. -/
def RrAt (V : Nat → Prop) (w : World) (R : Nat) (l : List UInt8) (s : RS) : Prop :=
  V R ∧ s.p ≤ l.length ∧ l.length ≤ 140737488355328 ∧ ∃ A cap, w.heap[R]? = some (.cells #[.slice A l.length cap, .int .i64 (s.p : Int), .bool (s.y != 0), .int .i64 s.y, .int .i64 s.z] 50 (0, 0)) ∧
    Cs w (fun k => V k ∧ k ≠ R) A l.length (bv l) ∧ l.length ≤ cap ∧ cap ≤ 9223372036854775807

namespace RrAt
variable {V V' T : Nat → Prop} {w w' : World} {R : Nat} {l : List UInt8} {s : RS}
theorem chg (h : RrAt V w R l s) (hc : Chg T w w') (hd : ∀ k, k < w.heap.size → V k → ¬ T k) : RrAt V w' R l s := by
  obtain ⟨hv, h1, h2, A, cap, hh, ho, hg⟩ := h
  exact ⟨hv, h1, h2, A, cap, hc.heap hh (hd R (lt_of_block hh) hv), ho.chg hc fun k hk hs => hd k hk hs.1, hg⟩
theorem keep (h : RrAt V w R l s) (hc : Chg (fun _ => False) w w') : RrAt V w' R l s := h.chg hc (fun _ _ _ h => h)
theorem mono (h : RrAt V w R l s) (hv' : ∀ k, k < w.heap.size → V k → V' k) : RrAt V' w R l s := by
  obtain ⟨hv, h1, h2, A, cap, hh, ho, hg⟩ := h
  exact ⟨hv' R (lt_of_block hh) hv, h1, h2, A, cap, hh, ho.mono fun k hk hs => ⟨hv' k hk hs.1, hs.2⟩, hg⟩
theorem lt (h : RrAt V w R l s) : R < w.heap.size := by
  obtain ⟨hv, h1, h2, A, cap, hh, ho, hg⟩ := h
  exact lt_of_block hh
theorem inV (h : RrAt V w R l s) : V R := h.1
end RrAt

def RrRefusal (V : Nat → Prop) (w : World) (R : Nat) (l : List UInt8) (s : RS) (e : Ending) (w' : World) : Prop :=
  e = .returned (.tuple #[]) ∧ RrAt V w' R l s ∧ Chg (fun k => k = R) w w'
theorem rrefuse_calls {V : Nat → Prop} {w : World} {R : Nat} {l : List UInt8} {s : RS} (hd : RrAt V w R l s) (why at_ : Int) (hw : why ≠ 0) :
    Calls Try.prog 58 #[.pointer (some ⟨R, 0, none⟩), .int .i64 why, .int .i64 at_] w (RrRefusal V w R l (rrefuse why at_ s)) := by
  obtain ⟨hv, h1, h2, A, cap, hh, ho, hg⟩ := hd
  obtain ⟨⟨c0, c1, c2, c3, c4⟩, f0, f1, f2, f3, f4⟩ := five_cells hh
  obtain ⟨p, y, z⟩ := s
  by_cases hy : y = 0
  · subst hy
    have e : rrefuse why at_ ⟨p, 0, z⟩ = ⟨p, why, at_⟩ := by rw [rrefuse, if_pos rfl]
    rw [e]
    have HB : Hid ((why != 0) = true) := Lib.hid (by simp [hw])
    clear e hw
    go_enter Try.func58, Try.ntmps58
    go_wp2_with fail
    go_end0
    refine ⟨rfl, ⟨hv, h1, h2, A, cap, ?_, ((ho.chg (Chg.one w ⟨R, 2, none⟩ _) (fun k _ hk => hk.2)).chg (Chg.one _ ⟨R, 3, none⟩ _) (fun k _ hk => hk.2)).chg (Chg.one _ ⟨R, 4, none⟩ _) (fun k _ hk => hk.2), hg⟩, (((Chg.refl (fun k => k = R) w).setIn rfl _ _).setIn rfl _ _).setIn rfl _ _⟩
    rw [HB.out]
    exact five_set4 (five_set3 (five_set2 hh _) _) _
  · have hyb : (y != 0) = true := by simp [hy]
    have e : rrefuse why at_ ⟨p, y, z⟩ = ⟨p, y, z⟩ := by rw [rrefuse, if_neg hy]
    rw [e]
    have HH := Lib.hid hh
    clear e hy hh
    go_enter Try.func58, Try.ntmps58
    go_wp2_with fail
    go_end0
    exact ⟨rfl, ⟨hv, h1, h2, A, cap, HH.out, ho, hg⟩, Chg.refl _ _⟩

/-- what raw gives: these bytes, in memory of their own -/
def RrTook (V : Nat → Prop) (w : World) (R : Nat) (l : List UInt8) (x : List UInt8) (s : RS) (e : Ending) (w' : World) : Prop :=
  ∃ own A c, e = .returned (.slice A x.length c) ∧ Own w' 5 own A x.length c (bv x) ∧ (∀ g, own = some g → w.heap.size ≤ g) ∧ RrAt V w' R l s ∧ Chg (fun k => k = R) w w'
theorem copied_d {w W w1 : World} {o1 : Option Nat} (hW : Chg (fun _ => False) w W) (hor1 : o1 = none ∨ o1 = some W.heap.size) (hc1 : Chg (fun k => (none : Option Nat) = some k) W w1) :
    Chg (fun _ => False) w w1 ∧ ∀ g, o1 = some g → w.heap.size ≤ g := by
  refine ⟨hW.trans hc1 (fun i hi hf => by cases hf), fun g hg => ?_⟩
  have hsz := hW.size
  rcases hor1 with h0 | h0
  · rw [h0] at hg; cases hg
  · rw [h0] at hg; injection hg with hg; omega

theorem rrtook_of {V : Nat → Prop} {w w1 : World} {R : Nat} {l : List UInt8} {p n cap1 : Nat} {z : Int} {A1 : Option Addr} {o1 : Option Nat} (hd : RrAt V w R l ⟨p, 0, z⟩) (hs : ¬ l.length - p < n)
    (hown : Own w1 5 o1 A1 n cap1 (bv ((l.drop p).take n))) (hn1 : ∀ g, o1 = some g → w.heap.size ≤ g) (hc01 : Chg (fun _ => False) w w1) :
    RrTook V w R l ((l.drop p).take n) ⟨p + n, 0, z⟩ (.returned (.slice A1 n cap1)) (w1.setCell ⟨R, 1, none⟩ (.int .i64 ((p : Int) + (n : Int)))) := by
  have hx : ((l.drop p).take n).length = n := by rw [List.length_take, List.length_drop]; omega
  have hlt := hd.lt
  obtain ⟨hv, h1, h2, A0, cap0, hh0, ho0, hg1, hg2⟩ := hd.keep hc01
  simp only at h1 hh0
  refine ⟨o1, A1, cap1, by rw [hx], ?_, hn1, ⟨hv, by show p + n ≤ l.length; omega, h2, A0, cap0, ?_, ho0.chg (Chg.one w1 ⟨R, 1, none⟩ _) (fun k _ hk => hk.2), hg1, hg2⟩, (Chg.mono (T' := fun k => k = R) hc01 (fun _ _ h => h.elim)).setIn rfl _ _⟩
  · rw [hx]
    exact hown.setOther' (p := ⟨R, 1, none⟩) (fun e => by have := hn1 R e; omega) _
  · show (w1.setCell ⟨R, 1, none⟩ (.int .i64 ((p : Int) + (n : Int)))).heap[R]? = _
    rw [show (((p + n : Nat)) : Int) = (p : Int) + (n : Int) from Int.natCast_add p n]
    exact five_set1 hh0 _

set_option maxRecDepth 100000 in
set_option maxHeartbeats 1600000 in
theorem raw_calls {V : Nat → Prop} {w : World} {R : Nat} {l : List UInt8} {s : RS} (hd : RrAt V w R l s) (n : Nat) (hn : n ≤ 140737488355328) :
    Calls Try.prog 59 #[.pointer (some ⟨R, 0, none⟩), .int .i64 n] w (RrTook V w R l (rtake l n s).1 (rtake l n s).2) := by
  have hd' := hd
  obtain ⟨hv, h1, h2, A, cap, hh, ho, hg1, hg2⟩ := hd
  obtain ⟨⟨c0, c1, c2, c3, c4⟩, f0, f1, f2, f3, f4⟩ := five_cells hh
  obtain ⟨p, y, z⟩ := s
  simp only at h1 c1 c2 c3 c4 hh
  by_cases hy : y = 0
  · subst hy
    by_cases hs : l.length - p < n
    · rw [rtake_short rfl hs]
      have hr : ∀ q, Calls Try.prog 58 #[.pointer (some ⟨R, 0, none⟩), .int .i64 10, .int .i64 (l.length : Int)] (w.drewN q) (RrRefusal V (w.drewN q) R l ⟨p, 10, (l.length : Int)⟩) := fun q =>
        rrefuse_calls (hd'.keep ((Chg.refl _ w).drewN q)) 10 (l.length : Int) (by decide)
      have HR := Lib.hid hr
      clear hr
      have hgt : (l.length : Int) - (p : Int) < (n : Int) := by omega
      go_enter Try.func59, Try.ntmps59
      go_wp2_with fail
      go_quiet (fail)
      go_wp2_with fail
      refine (HR.out _).mono ?_
      rintro e w1 ⟨rfl, hd1, hc1⟩
      go_wp2_with fail
      go_ret
      exact ⟨none, none, 0, rfl, Own.nil_ _ _ _, (fun g h => by cases h), hd1, ((Chg.refl _ w).drewN _).trans hc1 (fun _ _ h => h)⟩
    · rw [rtake_ok rfl hs]
      have hgt : ¬ (l.length : Int) - (p : Int) < (n : Int) := by omega
      have hp0 : (0 : Int) ≤ (p : Int) := by omega
      have hpn : (p : Int) ≤ (p : Int) + (n : Int) := by omega
      have hpc : (p : Int) + (n : Int) ≤ (cap : Int) := by omega
      have hw64 := IntWalk.i64_in ((p : Int) + (n : Int)) (by omega)
      have hton : ((p : Int) + (n : Int)).toNat = p + n := by omega
      have hpn' : p + n - p = n := by omega
      have HX : Hid (((l.drop p).take n).length = n) := Lib.hid (by rw [List.length_take, List.length_drop]; omega)
      have hpart : Cs w (fun k => V k ∧ k ≠ R) (if cap = p then A else A.map (·.add p)) n (bv ((l.drop p).take n)) := by
        rw [bv_take, bv_drop]
        exact (ho.drop (k := p) (by omega) hg1).take (by omega)
      go_enter Try.func59, Try.ntmps59
      go_wp2_with fail
      go_quiet (fail)
      by_cases hcp : cap = p
      · rw [if_pos hcp] at hpart
        subst cap
        go_wp2_with fail
        refine wp_region_held_drew (S := fun wx => wx.cell? ⟨R, 0, none⟩ = some (.slice A l.length p) ∧ wx.cell? ⟨R, 1, none⟩ = some (.int .i64 (p : Int))) (by kernel_rfl) (by refine ⟨?_, ?_⟩ <;> first | exact c0 | exact c1) (fun hHeld => ?_)
        refine take_at (i := 1) (some 30) (v := ?_) rfl rfl (by kernel_rfl) (by kernel_rfl) (by kernel_rfl) (fun _ _ _ h => h) (Or.inl ⟨by rfl, ?_⟩) (by assumption) ?_
        rotate_left
        · (intro wx hSw; go_simp; try (with_reducible rfl))
        try simp only [Act.put, List.setIfInBounds_toArray, List.set_cons_zero, List.set_cons_succ]
        refine take_at (i := 2) (some 31) (v := ?_) rfl rfl (by kernel_rfl) (by kernel_rfl) (by kernel_rfl) (fun _ _ _ h => h) (Or.inl ⟨by rfl, ?_⟩) (by assumption) ?_
        rotate_left
        · (intro wx hSw; go_simp; try (with_reducible rfl))
        try simp only [Act.put, List.setIfInBounds_toArray, List.set_cons_zero, List.set_cons_succ]
        refine take_at (i := 3) (some 32) (v := ?_) rfl rfl (by kernel_rfl) (by kernel_rfl) (by kernel_rfl) (fun _ _ _ h => h) (Or.inl ⟨by rfl, ?_⟩) (by assumption) ?_
        rotate_left
        · (intro wx hSw; go_simp; try (with_reducible rfl))
        try simp only [Act.put, List.setIfInBounds_toArray, List.set_cons_zero, List.set_cons_succ]
        refine take_at (i := 4) (some 33) (v := ?_) rfl rfl (by kernel_rfl) (by kernel_rfl) (by kernel_rfl) (fun _ _ _ h => h) (Or.inl ⟨by rfl, ?_⟩) (by assumption) ?_
        rotate_left
        · (intro wx hSw; go_simp; try (with_reducible rfl))
        try simp only [Act.put, List.setIfInBounds_toArray, List.set_cons_zero, List.set_cons_succ]
        refine take_at (i := 5) (some 34) (v := ?_) rfl rfl (by kernel_rfl) (by kernel_rfl) (by kernel_rfl) (fun _ _ _ h => h) (Or.inl ⟨by rfl, ?_⟩) (by assumption) ?_
        rotate_left
        · (intro wx hSw; go_simp; try (with_reducible rfl))
        try simp only [Act.put, List.setIfInBounds_toArray, List.set_cons_zero, List.set_cons_succ]
        refine take_at (i := 6) (some 35) (v := ?_) rfl rfl (by kernel_rfl) (by kernel_rfl) (by kernel_rfl) (fun _ _ _ h => h) (Or.inl ⟨by rfl, ?_⟩) (by assumption) ?_
        rotate_left
        · (intro wx hSw; go_simp; try (with_reducible rfl))
        try simp only [Act.put, List.setIfInBounds_toArray, List.set_cons_zero, List.set_cons_succ]
        refine take_at (i := 7) (some 36) (v := ?_) rfl rfl (by kernel_rfl) (by kernel_rfl) (by kernel_rfl) (fun _ _ _ h => h) (Or.inl ⟨by rfl, ?_⟩) (by assumption) ?_
        rotate_left
        · (intro wx hSw; go_simp; try (with_reducible rfl))
        try simp only [Act.put, List.setIfInBounds_toArray, List.set_cons_zero, List.set_cons_succ]
        refine take_at (i := 8) (some 37) (v := ?_) rfl rfl (by kernel_rfl) (by kernel_rfl) (by kernel_rfl) (fun _ _ _ h => h) (Or.inl ⟨by rfl, ?_⟩) (by assumption) ?_
        rotate_left
        · (intro wx hSw; go_simp; try (with_reducible rfl))
        try simp only [Act.put, List.setIfInBounds_toArray, List.set_cons_zero, List.set_cons_succ]
        refine take_at (i := 9) (some 38) (v := ?_) rfl rfl (by kernel_rfl) (by kernel_rfl) (by kernel_rfl) (fun _ _ _ h => h) (Or.inl ⟨by rfl, ?_⟩) (by assumption) ?_
        rotate_left
        · (intro wx hSw; go_simp; try (with_reducible rfl))
        try simp only [Act.put, List.setIfInBounds_toArray, List.set_cons_zero, List.set_cons_succ]
        refine take_at (i := 10) (some 39) (v := ?_) rfl rfl (by kernel_rfl) (by kernel_rfl) (by kernel_rfl) (fun _ _ _ h => h) (Or.inl ⟨by rfl, ?_⟩) (by assumption) ?_
        rotate_left
        · (intro wx hSw; go_simp; try (with_reducible rfl))
        try simp only [Act.put, List.setIfInBounds_toArray, List.set_cons_zero, List.set_cons_succ]
        refine take_at (i := 11) (some 40) (v := ?_) rfl rfl (by kernel_rfl) (by kernel_rfl) (by kernel_rfl) (fun _ _ _ h => h) (Or.inl ⟨by rfl, ?_⟩) (by assumption) ?_
        rotate_left
        · (intro wx hSw; go_simp; try (with_reducible rfl))
        try simp only [Act.put, List.setIfInBounds_toArray, List.set_cons_zero, List.set_cons_succ]
        refine take_at (i := 12) (some 41) (v := ?_) rfl rfl (by kernel_rfl) (by kernel_rfl) (by kernel_rfl) (fun _ _ _ h => h) (Or.inl ⟨by rfl, ?_⟩) (by assumption) ?_
        rotate_left
        · (intro wx hSw; go_simp; try (with_reducible rfl))
        try simp only [Act.put, List.setIfInBounds_toArray, List.set_cons_zero, List.set_cons_succ]
        refine take_at (i := 13) (some 42) (v := ?_) rfl rfl (by kernel_rfl) (by kernel_rfl) (by kernel_rfl) (fun _ _ _ h => h) (Or.inl ⟨by rfl, ?_⟩) (by assumption) ?_
        rotate_left
        · (intro wx hSw; go_simp; try (with_reducible rfl))
        try simp only [Act.put, List.setIfInBounds_toArray, List.set_cons_zero, List.set_cons_succ]
        refine take_at (i := 14) (some 43) (v := ?_) rfl rfl (by kernel_rfl) (by kernel_rfl) (by kernel_rfl) (fun _ _ _ h => h) (Or.inl ⟨by rfl, ?_⟩) (by assumption) ?_
        rotate_left
        · (intro wx hSw; go_simp; try (with_reducible rfl))
        try simp only [Act.put, List.setIfInBounds_toArray, List.set_cons_zero, List.set_cons_succ]
        refine take_at (i := 15) (some 44) (v := ?_) rfl rfl (by kernel_rfl) (by kernel_rfl) (by kernel_rfl) (fun _ _ _ h => h) (Or.inl ⟨by rfl, ?_⟩) (by assumption) ?_
        rotate_left
        · (intro wx hSw; go_simp; try (with_reducible rfl))
        try simp only [Act.put, List.setIfInBounds_toArray, List.set_cons_zero, List.set_cons_succ]
        refine wpAnyH_ready (rs := [0]) (by kernel_rfl) (by simp) ?_
        refine AllReadyH.cons rfl (fun K hK => ?_) AllReadyH.nil
        go_simp
        refine hK.out _ _ ?_ (fun hHeld => ?_)
        · (go_keep)
        clear hK K
        try simp only [Act.put, List.setIfInBounds_toArray, List.set_cons_zero, List.set_cons_succ]
        refine wpAnyH_ready (rs := [16]) (by kernel_rfl) (by simp) ?_
        refine AllReadyH.cons rfl (fun K hK => ?_) AllReadyH.nil
        refine step_append rfl _ _ 22 22 rfl 5 1 bytesApp none _ 0 0 [] (bv ((l.drop p).take n)) _ rfl rfl (Own.nil_ _ _ _) (Src.slice (hpart.chg (((Chg.refl (fun _ => False) _).drewN _).alloc (.cells #[] 5)) (fun _ _ _ h => h))) (bv_one _) n (by rw [bv_length, HX.out]; omega) (by omega) (by omega) ?_
        intro o1 A1 cap1 w1 hown1 hor1 hc1
        obtain ⟨hc01, hn1⟩ := copied_d (((Chg.refl (fun _ => False) w).drewN (nq + 1)).alloc (.cells #[] 5)) hor1 hc1
        have k0 := hc01.cell c0 (fun h => h)
        have k1 := hc01.cell c1 (fun h => h)
        have kf := (five_cells (hc01.heap hh (fun h => h))).2.2.1
        refine hK.out _ _ ?_ (fun hHeld => ?_)
        · (exact ⟨k0, k1⟩)
        clear hK K
        try simp only [Act.put, List.setIfInBounds_toArray, List.set_cons_zero, List.set_cons_succ]
        refine take_at (i := 17) (some 5) (v := ?_) rfl rfl (by kernel_rfl) (by kernel_rfl) (by kernel_rfl) (fun _ _ _ h => h) (Or.inl ⟨by rfl, ?_⟩) (by assumption) ?_
        rotate_left
        · (intro wx hSw; go_simp; try (with_reducible rfl))
        try simp only [Act.put, List.setIfInBounds_toArray, List.set_cons_zero, List.set_cons_succ]
        refine wpAnyH_done (by kernel_rfl) ?_ _
        go_wp2_with fail
        go_ret
        exact rrtook_of hd' hs hown1 hn1 hc01
      · rw [if_neg hcp] at hpart
        go_wp2_with fail
        refine wp_region_held_drew (S := fun wx => wx.cell? ⟨R, 0, none⟩ = some (.slice A l.length cap) ∧ wx.cell? ⟨R, 1, none⟩ = some (.int .i64 (p : Int))) (by kernel_rfl) (by refine ⟨?_, ?_⟩ <;> first | exact c0 | exact c1) (fun hHeld => ?_)
        refine take_at (i := 1) (some 30) (v := ?_) rfl rfl (by kernel_rfl) (by kernel_rfl) (by kernel_rfl) (fun _ _ _ h => h) (Or.inl ⟨by rfl, ?_⟩) (by assumption) ?_
        rotate_left
        · (intro wx hSw; go_simp; try (with_reducible rfl))
        try simp only [Act.put, List.setIfInBounds_toArray, List.set_cons_zero, List.set_cons_succ]
        refine take_at (i := 2) (some 31) (v := ?_) rfl rfl (by kernel_rfl) (by kernel_rfl) (by kernel_rfl) (fun _ _ _ h => h) (Or.inl ⟨by rfl, ?_⟩) (by assumption) ?_
        rotate_left
        · (intro wx hSw; go_simp; try (with_reducible rfl))
        try simp only [Act.put, List.setIfInBounds_toArray, List.set_cons_zero, List.set_cons_succ]
        refine take_at (i := 3) (some 32) (v := ?_) rfl rfl (by kernel_rfl) (by kernel_rfl) (by kernel_rfl) (fun _ _ _ h => h) (Or.inl ⟨by rfl, ?_⟩) (by assumption) ?_
        rotate_left
        · (intro wx hSw; go_simp; try (with_reducible rfl))
        try simp only [Act.put, List.setIfInBounds_toArray, List.set_cons_zero, List.set_cons_succ]
        refine take_at (i := 4) (some 33) (v := ?_) rfl rfl (by kernel_rfl) (by kernel_rfl) (by kernel_rfl) (fun _ _ _ h => h) (Or.inl ⟨by rfl, ?_⟩) (by assumption) ?_
        rotate_left
        · (intro wx hSw; go_simp; try (with_reducible rfl))
        try simp only [Act.put, List.setIfInBounds_toArray, List.set_cons_zero, List.set_cons_succ]
        refine take_at (i := 5) (some 34) (v := ?_) rfl rfl (by kernel_rfl) (by kernel_rfl) (by kernel_rfl) (fun _ _ _ h => h) (Or.inl ⟨by rfl, ?_⟩) (by assumption) ?_
        rotate_left
        · (intro wx hSw; go_simp; try (with_reducible rfl))
        try simp only [Act.put, List.setIfInBounds_toArray, List.set_cons_zero, List.set_cons_succ]
        refine take_at (i := 6) (some 35) (v := ?_) rfl rfl (by kernel_rfl) (by kernel_rfl) (by kernel_rfl) (fun _ _ _ h => h) (Or.inl ⟨by rfl, ?_⟩) (by assumption) ?_
        rotate_left
        · (intro wx hSw; go_simp; try (with_reducible rfl))
        try simp only [Act.put, List.setIfInBounds_toArray, List.set_cons_zero, List.set_cons_succ]
        refine take_at (i := 7) (some 36) (v := ?_) rfl rfl (by kernel_rfl) (by kernel_rfl) (by kernel_rfl) (fun _ _ _ h => h) (Or.inl ⟨by rfl, ?_⟩) (by assumption) ?_
        rotate_left
        · (intro wx hSw; go_simp; try (with_reducible rfl))
        try simp only [Act.put, List.setIfInBounds_toArray, List.set_cons_zero, List.set_cons_succ]
        refine take_at (i := 8) (some 37) (v := ?_) rfl rfl (by kernel_rfl) (by kernel_rfl) (by kernel_rfl) (fun _ _ _ h => h) (Or.inl ⟨by rfl, ?_⟩) (by assumption) ?_
        rotate_left
        · (intro wx hSw; go_simp; try (with_reducible rfl))
        try simp only [Act.put, List.setIfInBounds_toArray, List.set_cons_zero, List.set_cons_succ]
        refine take_at (i := 9) (some 38) (v := ?_) rfl rfl (by kernel_rfl) (by kernel_rfl) (by kernel_rfl) (fun _ _ _ h => h) (Or.inl ⟨by rfl, ?_⟩) (by assumption) ?_
        rotate_left
        · (intro wx hSw; go_simp; try (with_reducible rfl))
        try simp only [Act.put, List.setIfInBounds_toArray, List.set_cons_zero, List.set_cons_succ]
        refine take_at (i := 10) (some 39) (v := ?_) rfl rfl (by kernel_rfl) (by kernel_rfl) (by kernel_rfl) (fun _ _ _ h => h) (Or.inl ⟨by rfl, ?_⟩) (by assumption) ?_
        rotate_left
        · (intro wx hSw; go_simp; try (with_reducible rfl))
        try simp only [Act.put, List.setIfInBounds_toArray, List.set_cons_zero, List.set_cons_succ]
        refine take_at (i := 11) (some 40) (v := ?_) rfl rfl (by kernel_rfl) (by kernel_rfl) (by kernel_rfl) (fun _ _ _ h => h) (Or.inl ⟨by rfl, ?_⟩) (by assumption) ?_
        rotate_left
        · (intro wx hSw; go_simp; try (with_reducible rfl))
        try simp only [Act.put, List.setIfInBounds_toArray, List.set_cons_zero, List.set_cons_succ]
        refine take_at (i := 12) (some 41) (v := ?_) rfl rfl (by kernel_rfl) (by kernel_rfl) (by kernel_rfl) (fun _ _ _ h => h) (Or.inl ⟨by rfl, ?_⟩) (by assumption) ?_
        rotate_left
        · (intro wx hSw; go_simp; try (with_reducible rfl))
        try simp only [Act.put, List.setIfInBounds_toArray, List.set_cons_zero, List.set_cons_succ]
        refine take_at (i := 13) (some 42) (v := ?_) rfl rfl (by kernel_rfl) (by kernel_rfl) (by kernel_rfl) (fun _ _ _ h => h) (Or.inl ⟨by rfl, ?_⟩) (by assumption) ?_
        rotate_left
        · (intro wx hSw; go_simp; try (with_reducible rfl))
        try simp only [Act.put, List.setIfInBounds_toArray, List.set_cons_zero, List.set_cons_succ]
        refine take_at (i := 14) (some 43) (v := ?_) rfl rfl (by kernel_rfl) (by kernel_rfl) (by kernel_rfl) (fun _ _ _ h => h) (Or.inl ⟨by rfl, ?_⟩) (by assumption) ?_
        rotate_left
        · (intro wx hSw; go_simp; try (with_reducible rfl))
        try simp only [Act.put, List.setIfInBounds_toArray, List.set_cons_zero, List.set_cons_succ]
        refine take_at (i := 15) (some 44) (v := ?_) rfl rfl (by kernel_rfl) (by kernel_rfl) (by kernel_rfl) (fun _ _ _ h => h) (Or.inl ⟨by rfl, ?_⟩) (by assumption) ?_
        rotate_left
        · (intro wx hSw; go_simp; try (with_reducible rfl))
        try simp only [Act.put, List.setIfInBounds_toArray, List.set_cons_zero, List.set_cons_succ]
        refine wpAnyH_ready (rs := [0]) (by kernel_rfl) (by simp) ?_
        refine AllReadyH.cons rfl (fun K hK => ?_) AllReadyH.nil
        go_simp
        refine hK.out _ _ ?_ (fun hHeld => ?_)
        · (go_keep)
        clear hK K
        try simp only [Act.put, List.setIfInBounds_toArray, List.set_cons_zero, List.set_cons_succ]
        refine wpAnyH_ready (rs := [16]) (by kernel_rfl) (by simp) ?_
        refine AllReadyH.cons rfl (fun K hK => ?_) AllReadyH.nil
        refine step_append rfl _ _ 22 22 rfl 5 1 bytesApp none _ 0 0 [] (bv ((l.drop p).take n)) _ rfl rfl (Own.nil_ _ _ _) (Src.slice (hpart.chg (((Chg.refl (fun _ => False) _).drewN _).alloc (.cells #[] 5)) (fun _ _ _ h => h))) (bv_one _) n (by rw [bv_length, HX.out]; omega) (by omega) (by omega) ?_
        intro o1 A1 cap1 w1 hown1 hor1 hc1
        obtain ⟨hc01, hn1⟩ := copied_d (((Chg.refl (fun _ => False) w).drewN (nq + 1)).alloc (.cells #[] 5)) hor1 hc1
        have k0 := hc01.cell c0 (fun h => h)
        have k1 := hc01.cell c1 (fun h => h)
        have kf := (five_cells (hc01.heap hh (fun h => h))).2.2.1
        refine hK.out _ _ ?_ (fun hHeld => ?_)
        · (exact ⟨k0, k1⟩)
        clear hK K
        try simp only [Act.put, List.setIfInBounds_toArray, List.set_cons_zero, List.set_cons_succ]
        refine take_at (i := 17) (some 5) (v := ?_) rfl rfl (by kernel_rfl) (by kernel_rfl) (by kernel_rfl) (fun _ _ _ h => h) (Or.inl ⟨by rfl, ?_⟩) (by assumption) ?_
        rotate_left
        · (intro wx hSw; go_simp; try (with_reducible rfl))
        try simp only [Act.put, List.setIfInBounds_toArray, List.set_cons_zero, List.set_cons_succ]
        refine wpAnyH_done (by kernel_rfl) ?_ _
        go_wp2_with fail
        go_ret
        exact rrtook_of hd' hs hown1 hn1 hc01
  · have hyb : (y != 0) = true := by simp [hy]
    rw [rtake_off hy]
    clear hy
    go_enter Try.func59, Try.ntmps59
    go_wp2_with fail
    go_ret
    exact ⟨none, none, 0, rfl, Own.nil_ _ _ _, (fun g h => by cases h), hd', Chg.refl _ _⟩

def RrGot (V : Nat → Prop) (w : World) (R : Nat) (l : List UInt8) (v : Value) (s : RS) (e : Ending) (w' : World) : Prop :=
  e = .returned v ∧ RrAt V w' R l s ∧ Chg (fun k => k = R) w w'
set_option maxRecDepth 100000 in
set_option maxHeartbeats 800000 in
theorem number_calls {V : Nat → Prop} {w : World} {R : Nat} {l : List UInt8} {s : RS} (hd : RrAt V w R l s) (n : Nat) (hn : n ≤ 8) :
    Calls Try.prog 57 #[.pointer (some ⟨R, 0, none⟩), .int .i64 n] w (RrGot V w R l (.int .u64 (num (rtake l n s).1 : Int)) (rtake l n s).2) := by
  have hx8 := rtake_le l n s
  have ht := raw_calls hd n (by omega)
  have HT := Lib.hid ht
  clear ht hd
  generalize (rtake l n s).1 = x at hx8 HT ⊢
  generalize (rtake l n s).2 = s' at HT ⊢
  go_enter Try.func57, Try.ntmps57
  go_wp2_with fail
  refine HT.out.mono ?_
  rintro e w1 ⟨own, A, c, rfl, hown, hnew, hd1, hc1⟩
  have hcs := hown.cs
  clear hown
  go_wp2_with fail
  go_loop [6, 7] (fun N i => ∃ j M : Nat, j ≤ x.length ∧ N = .int .u64 M ∧ i = .int .i64 ((j : Int) - 1) ∧ Hid (M = num (x.drop j))) (fun _ i => (intOf i + 1).toNat)
  case atStart => exact ⟨x.length, 0, Nat.le_refl _, rfl, rfl, Lib.hid (by simp [num])⟩
  case round =>
    obtain ⟨j, M, hj, rfl, rfl, HN⟩ := hrel
    rcases Nat.eq_zero_or_pos j with rfl | hj0
    · go_wp2_with fail
      go_ret
      refine ⟨?_, hd1, hc1⟩
      rw [HN.out]
      rfl
    · obtain ⟨i, rfl⟩ : ∃ i, j = i + 1 := ⟨j - 1, by omega⟩
      obtain ⟨b, off, rfl, hb, hcell⟩ := hcs.2 (by omega)
      have hil : i < x.length := by omega
      have hci := hcell i _ (bv_get hil)
      have hdr := num_drop hil
      have hN7 : M < 72057594037927936 := by rw [HN.out]; exact num_lt7 (by rw [List.length_drop]; omega)
      have hb256 : (x[i].toNat) < 256 := x[i].toNat_lt
      generalize x[i].toNat = y at hci hdr hb256
      have HC := Lib.hid hcell
      have HD := Lib.hid hdr
      clear hcell hdr
      have hi1 : ((i + 1 : Nat) : Int) - 1 = (i : Int) := by omega
      have hil' : (i : Int) < (x.length : Int) := by omega
      have hor := u64_or_byte M y hN7 hb256
      rw [hi1]
      go_wp2_with fail
      go_round
      case rel => exact ⟨i, y + 256 * M, by omega, rfl, rfl, Lib.hid (by rw [HD.out, HN.out])⟩
      case measure => simp [intOf]

theorem RrByte_calls {V : Nat → Prop} {w : World} {R : Nat} {l : List UInt8} {s : RS} (hd : RrAt V w R l s) :
    Calls Try.prog 31 #[.pointer (some ⟨R, 0, none⟩)] w (RrGot V w R l (.int .i64 (num (rtake l 1 s).1 : Int)) (rtake l 1 s).2) := by
  have h : Calls Try.prog 57 #[.pointer (some ⟨R, 0, none⟩), .int .i64 1] w (RrGot V w R l (.int .u64 (num (rtake l 1 s).1 : Int)) (rtake l 1 s).2) := number_calls hd 1 (by decide)
  have hb := num_lt2 (l := (rtake l 1 s).1) (by have := rtake_le l 1 s; omega)
  have H := Lib.hid h
  clear h hd
  generalize (rtake l 1 s).1 = x at hb H ⊢
  generalize (rtake l 1 s).2 = s' at H ⊢
  go_enter Try.func31, Try.ntmps31
  go_wp2_with fail
  refine H.out.mono ?_
  rintro e w1 ⟨rfl, hd1, hc1⟩
  go_wp2_with fail
  go_ret
  exact ⟨rfl, hd1, hc1⟩

theorem RrShort_calls {V : Nat → Prop} {w : World} {R : Nat} {l : List UInt8} {s : RS} (hd : RrAt V w R l s) :
    Calls Try.prog 32 #[.pointer (some ⟨R, 0, none⟩)] w (RrGot V w R l (.int .i64 (num (rtake l 2 s).1 : Int)) (rtake l 2 s).2) := by
  have h : Calls Try.prog 57 #[.pointer (some ⟨R, 0, none⟩), .int .i64 2] w (RrGot V w R l (.int .u64 (num (rtake l 2 s).1 : Int)) (rtake l 2 s).2) := number_calls hd 2 (by decide)
  have hb := num_lt2 (l := (rtake l 2 s).1) (by have := rtake_le l 2 s; omega)
  have H := Lib.hid h
  clear h hd
  generalize (rtake l 2 s).1 = x at hb H ⊢
  generalize (rtake l 2 s).2 = s' at H ⊢
  go_enter Try.func32, Try.ntmps32
  go_wp2_with fail
  refine H.out.mono ?_
  rintro e w1 ⟨rfl, hd1, hc1⟩
  go_wp2_with fail
  go_ret
  exact ⟨rfl, hd1, hc1⟩

theorem RrLong_calls {V : Nat → Prop} {w : World} {R : Nat} {l : List UInt8} {s : RS} (hd : RrAt V w R l s) :
    Calls Try.prog 33 #[.pointer (some ⟨R, 0, none⟩)] w (RrGot V w R l (.int .i64 (s64 (num (rtake l 8 s).1))) (rtake l 8 s).2) := by
  have h : Calls Try.prog 57 #[.pointer (some ⟨R, 0, none⟩), .int .i64 8] w (RrGot V w R l (.int .u64 (num (rtake l 8 s).1 : Int)) (rtake l 8 s).2) := number_calls hd 8 (by decide)
  have hb := s64_wrap _ (num_lt8 (l := (rtake l 8 s).1) (by have := rtake_le l 8 s; omega))
  have H := Lib.hid h
  clear h hd
  generalize (rtake l 8 s).1 = x at hb H ⊢
  generalize (rtake l 8 s).2 = s' at H ⊢
  go_enter Try.func33, Try.ntmps33
  go_wp2_with fail
  refine H.out.mono ?_
  rintro e w1 ⟨rfl, hd1, hc1⟩
  go_wp2_with fail
  go_ret
  exact ⟨rfl, hd1, hc1⟩

theorem RrFail_calls {V : Nat → Prop} {w : World} {R : Nat} {l : List UInt8} {s : RS} (hd : RrAt V w R l s) (why : Int) :
    Calls Try.prog 36 #[.pointer (some ⟨R, 0, none⟩), .int .i64 why] w (RrRefusal V w R l (rfail why s)) := by
  have hd' := hd
  obtain ⟨hv, h1, h2, A, cap, hh, ho, hg1, hg2⟩ := hd
  obtain ⟨⟨c0, c1, c2, c3, c4⟩, f0, f1, f2, f3, f4⟩ := five_cells hh
  by_cases hw : why = 0
  · have hwb : (why != 0) = false := by simp [hw]
    have e : rfail why s = s := by rw [rfail, if_neg (fun h => h.2 hw)]
    rw [e]
    clear hw e
    go_enter Try.func36, Try.ntmps36
    go_wp2_with fail
    go_end0
    exact ⟨rfl, hd', Chg.refl _ _⟩
  · have hwb : (why != 0) = true := by simp [hw]
    have e : rfail why s = rrefuse why (s.p : Int) s := by
      by_cases hy : s.y = 0
      · rw [rfail, if_pos ⟨hy, hw⟩, rrefuse, if_pos hy]
      · rw [rfail, if_neg (fun h => hy h.1), rrefuse, if_neg hy]
    rw [e]
    have H := Lib.hid (rrefuse_calls hd' why (s.p : Int) hw)
    clear hw e
    go_enter Try.func36, Try.ntmps36
    go_wp2_with fail
    refine H.out.mono ?_
    rintro e w1 ⟨rfl, hd1, hc1⟩
    go_wp2_with fail
    go_end0
    exact ⟨rfl, hd1, hc1⟩

theorem RrLeft_calls {V : Nat → Prop} {w : World} {R : Nat} {l : List UInt8} {s : RS} (hd : RrAt V w R l s) :
    Calls Try.prog 37 #[.pointer (some ⟨R, 0, none⟩)] w fun e w' => e = .returned (.int .i64 (rleft l s)) ∧ ∃ q, w' = w.drewN q := by
  obtain ⟨hv, h1, h2, A, cap, hh, ho, hg1, hg2⟩ := hd
  obtain ⟨⟨c0, c1, c2, c3, c4⟩, f0, f1, f2, f3, f4⟩ := five_cells hh
  obtain ⟨p, y, z⟩ := s
  simp only at h1 c1 c2 c3 c4 hh
  by_cases hy : y = 0
  · subst hy
    have e : rleft l ⟨p, 0, z⟩ = (l.length : Int) - (p : Int) := by rw [rleft, if_pos rfl]; show ((l.length - p : Nat) : Int) = _; omega
    rw [e]
    clear e
    go_enter Try.func37, Try.ntmps37
    go_wp2_with fail
    go_quiet (fail)
    go_wp2_with fail
    go_ret
    exact ⟨rfl, _, rfl⟩
  · have hyb : (y != 0) = true := by simp [hy]
    have e : rleft l ⟨p, y, z⟩ = 0 := by rw [rleft, if_neg hy]
    rw [e]
    clear hy e
    go_enter Try.func37, Try.ntmps37
    go_wp2_with fail
    go_ret
    exact ⟨rfl, 0, rfl⟩

theorem RrEnd_calls {V : Nat → Prop} {w : World} {R : Nat} {l : List UInt8} {s : RS} (hd : RrAt V w R l s) :
    Calls Try.prog 38 #[.pointer (some ⟨R, 0, none⟩)] w fun e w' => e = .returned (.tuple #[.int .i64 (rwhy l s), .int .i64 (rwhere l s)]) ∧ ∃ q, w' = w.drewN q := by
  obtain ⟨hv, h1, h2, A, cap, hh, ho, hg1, hg2⟩ := hd
  obtain ⟨⟨c0, c1, c2, c3, c4⟩, f0, f1, f2, f3, f4⟩ := five_cells hh
  obtain ⟨p, y, z⟩ := s
  simp only at h1 c1 c2 c3 c4 hh
  by_cases hy : y = 0
  · subst hy
    by_cases hp : p < l.length
    · have e : rwhy l ⟨p, 0, z⟩ = 11 := by rw [rwhy, if_pos rfl, if_pos hp]
      have e' : rwhere l ⟨p, 0, z⟩ = (p : Int) := by rw [rwhere, if_pos rfl, if_pos hp]
      rw [e, e']
      clear e e'
      have hp' : (p : Int) < (l.length : Int) := by omega
      go_enter Try.func38, Try.ntmps38
      go_wp2_with fail
      go_quiet (fail)
      go_wp2_with fail
      go_quiet (fail)
      go_wp2_with fail
      go_ret2
      exact ⟨rfl, _, World.drewN_drewN _ _ _⟩
    · have e : rwhy l ⟨p, 0, z⟩ = 0 := by rw [rwhy, if_pos rfl, if_neg hp]
      have e' : rwhere l ⟨p, 0, z⟩ = 0 := by rw [rwhere, if_pos rfl, if_neg hp]
      rw [e, e']
      clear e e'
      have hp' : (l.length : Int) ≤ (p : Int) := by omega
      go_enter Try.func38, Try.ntmps38
      go_wp2_with fail
      go_quiet (fail)
      go_wp2_with fail
      go_ret2
      exact ⟨rfl, _, rfl⟩
  · have hyb : (y != 0) = true := by simp [hy]
    have e : rwhy l ⟨p, y, z⟩ = y := by rw [rwhy, if_neg hy]
    have e' : rwhere l ⟨p, y, z⟩ = z := by rw [rwhere, if_neg hy]
    rw [e, e']
    clear hy e e'
    go_enter Try.func38, Try.ntmps38
    go_wp2_with fail
    go_quiet (fail)
    go_wp2_with fail
    go_ret2
    exact ⟨rfl, _, rfl⟩

set_option maxRecDepth 100000 in
set_option maxHeartbeats 1000000 in
theorem RrText_calls {V : Nat → Prop} {w : World} {R : Nat} {l : List UInt8} {s : RS} (hd : RrAt V w R l s) (most : Int) :
    Calls Try.prog 34 #[.pointer (some ⟨R, 0, none⟩), .int .i64 most] w (RrGot V w R l (.string (str (rtext l most s).1)) (rtext l most s).2) := by
  have h := RrShort_calls hd
  have hb := num_lt2 (l := (rtake l 2 s).1) (rtake_le l 2 s)
  obtain ⟨hv, h1, h2, A, cap, hh, ho, hg1, hg2⟩ := hd
  obtain ⟨⟨c0, c1, c2, c3, c4⟩, f0, f1, f2, f3, f4⟩ := five_cells hh
  unfold rtext
  generalize (rtake l 2 s).1 = x at hb h ⊢
  generalize (rtake l 2 s).2 = s' at h ⊢
  generalize num x = N at hb h ⊢
  have HS := Lib.hid h
  clear h f0 f1 f2 f3 f4 hh ho
  by_cases hy : s'.y = 0
  · obtain ⟨p', y', z'⟩ := s'
    simp only at hy
    subst hy
    by_cases hm : max most 0 < (N : Int)
    · rw [if_pos ⟨rfl, hm⟩]
      have hm1 : most < (N : Int) := by omega
      have hm0 : (0 : Int) < (N : Int) := by omega
      have hcase : 0 ≤ most ∨ most < 0 := by omega
      clear hm
      rcases hcase with hm2 | hm2
      all_goals
        go_enter Try.func34, Try.ntmps34
        go_wp2_with fail
        refine HS.out.mono ?_
        rintro e w1 ⟨rfl, hd1, hc1⟩
        obtain ⟨hv1, h11, h12, A1, cap1, hh1, ho1, hg11, hg12⟩ := id hd1
        obtain ⟨⟨d0, d1, d2, d3, d4⟩, _, _, _, _, _⟩ := five_cells hh1
        clear c0 c1 c2 c3 c4
        go_wp2_with fail
        refine (rrefuse_calls hd1 3 (s.p : Int) (by decide)).mono ?_
        rintro e w2 ⟨rfl, hd2, hc2⟩
        clear d0 d1 d2 d3 d4
        rw [rrefuse, if_pos rfl] at hd2
        go_wp2_with fail
        go_ret
        exact ⟨rfl, hd2, hc1.trans hc2 (fun _ _ h => h)⟩
    · rw [if_neg (fun h => hm h.2)]
      have hcase : (0 ≤ most ∧ (N : Int) ≤ most) ∨ (most < 0 ∧ (N : Int) ≤ 0) := by omega
      rcases hcase with ⟨hm1, hm2⟩ | ⟨hm1, hm2⟩
      all_goals
        go_enter Try.func34, Try.ntmps34
        go_wp2_with fail
        refine HS.out.mono ?_
        rintro e w1 ⟨rfl, hd1, hc1⟩
        obtain ⟨hv1, h11, h12, A1, cap1, hh1, ho1, hg11, hg12⟩ := id hd1
        obtain ⟨⟨d0, d1, d2, d3, d4⟩, _, _, _, _, _⟩ := five_cells hh1
        clear c0 c1 c2 c3 c4
        have ht := raw_calls hd1 N (by omega)
        have HT := Lib.hid ht
        clear ht
        go_wp2_with fail
        refine HT.out.mono ?_
        rintro e w3 ⟨own, A', c', rfl, hown, hnew, hd3, hc3⟩
        have hcs := hown.cs
        clear hown
        go_wp2_with (refine wpList_string rfl _ _ _ 5 rfl Try.underlying22 Try.underlying5 Try.underlying9 _ A' _ c' _ rfl hcs ?_)
        go_wp2_with fail
        go_ret
        exact ⟨rfl, hd3, hc1.trans hc3 (fun _ _ h => h)⟩
  · rw [if_neg (fun h => hy h.1)]
    have hyb : (s'.y != 0) = true := by simp [hy]
    have HY := Lib.hid hy
    clear hy
    have hcase : 0 ≤ most ∨ most < 0 := by omega
    rcases hcase with hm2 | hm2
    all_goals
      go_enter Try.func34, Try.ntmps34
      go_wp2_with fail
      refine HS.out.mono ?_
      rintro e w1 ⟨rfl, hd1, hc1⟩
      obtain ⟨hv1, h11, h12, A1, cap1, hh1, ho1, hg11, hg12⟩ := id hd1
      obtain ⟨⟨d0, d1, d2, d3, d4⟩, _, _, _, _, _⟩ := five_cells hh1
      clear c0 c1 c2 c3 c4
      have ht := raw_calls hd1 N (by omega)
      have HT := Lib.hid ht
      clear ht
      go_wp2_with fail
      refine HT.out.mono ?_
      rintro e w3 ⟨own, A', c', rfl, hown, hnew, hd3, hc3⟩
      have hcs := hown.cs
      clear hown
      go_wp2_with (refine wpList_string rfl _ _ _ 5 rfl Try.underlying22 Try.underlying5 Try.underlying9 _ A' _ c' _ rfl hcs ?_)
      go_wp2_with fail
      go_ret
      exact ⟨rfl, hd3, hc1.trans hc3 (fun _ _ h => h)⟩
end Go.Proofs.Ytiibkbkcncmjoaa
