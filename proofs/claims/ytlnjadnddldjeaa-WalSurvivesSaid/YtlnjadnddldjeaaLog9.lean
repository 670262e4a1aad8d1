/-
  Contracts of a log's Base.
-/
import Derived.Test.YtlnjadnddldjeaaLog8
namespace Go.Proofs.Ytlnjadnddldjeaa
open Go.RowKit
set_option linter.unusedVariables false
set_option linter.unusedSimpArgs false

theorem five_set1 {w : World} {D : Nat} {x y z v u : Value} {t : TypeId} (h : w.heap[D]? = some (.cells #[x, y, z, v, u] t (0, 0))) (a : Value) : (w.setCell ⟨D, 1, none⟩ a).heap[D]? = some (.cells #[x, a, z, v, u] t (0, 0)) :=
  heap_setCell_same w D 1 _ _ a h
theorem five_set3 {w : World} {D : Nat} {x y z v u : Value} {t : TypeId} (h : w.heap[D]? = some (.cells #[x, y, z, v, u] t (0, 0))) (a : Value) : (w.setCell ⟨D, 3, none⟩ a).heap[D]? = some (.cells #[x, y, z, a, u] t (0, 0)) :=
  heap_setCell_same w D 3 _ _ a h
theorem five_set132 {w : World} {D : Nat} {x y z v u : Value} {t : TypeId} (h : w.heap[D]? = some (.cells #[x, y, z, v, u] t (0, 0))) (a b c : Value) : (((w.setCell ⟨D, 1, none⟩ a).setCell ⟨D, 3, none⟩ b).setCell ⟨D, 2, none⟩ c).heap[D]? = some (.cells #[x, a, c, b, u] t (0, 0)) :=
  five_set2 (five_set3 (five_set1 h a) b) c
theorem sv_drop (rs : List ByteArray) (k : Nat) : (sv rs).drop k = sv (rs.drop k) := by simp [sv]
theorem sv_one (rs : List ByteArray) : ∀ u ∈ sv rs, u.oneCell' = true := by
  intro u hu
  simp only [sv, List.mem_map] at hu
  obtain ⟨s, _, rfl⟩ := hu
  rfl

/-- what Base leaves -/
def Based (w : World) (L D : Nat) (f : Nat) (rs : List ByteArray) (snap note : ByteArray) (e : Ending) (w' : World) : Prop :=
  ∃ own' dOwn', e = .returned (.int .i64 0) ∧ DiskAt w' D dOwn' (eb (imgs f snap note rs)) (eb (imgs f snap note rs)).length ∧ LogAt w' L D own' f rs snap note ∧ (∀ g, own' = some g → w.heap.size ≤ g) ∧ (∀ g, dOwn' = some g → w.heap.size ≤ g) ∧ Chg (fun k => k = D ∨ k = L) w w'
theorem based_of {w w7 : World} {L D f n m c : Nat} {own o6 o7 : Option Nat} {rs qs : List ByteArray} {snap note s : ByteArray} {A6 : Option Addr} {mi : Int}
    (h : LogAt w7 L D own f rs snap note) (hO : Own w7 9 o6 A6 m c (sv qs)) (hd : DiskAt w7 D o7 (eb (imgs n s note qs)) (eb (imgs n s note qs)).length) (hn : n ≤ 1073741824) (hq : qs.length ≤ 1000000) (hmi : (n : Int) = mi)
    (ho6 : ∀ g, o6 = some g → w.heap.size ≤ g) (ho7 : ∀ g, o7 = some g → w.heap.size ≤ g) (hLD : ¬ L = D) (hL : L < w.heap.size) (a : Chg (fun k => k = D ∨ k = L) w w7) :
    Based w L D n qs s note (.returned (.int .i64 0)) (((w7.setCell ⟨L, 1, none⟩ (.int .i64 mi)).setCell ⟨L, 3, none⟩ (.string s)).setCell ⟨L, 2, none⟩ (.slice A6 m c)) := by
  subst hmi
  obtain ⟨h1, h2, A, cap, hh, hOO⟩ := h
  have hml : qs.length = m := by rw [← sv_length]; exact hO.1
  subst hml
  have k : Chg (fun k => k = L) w7 (((w7.setCell ⟨L, 1, none⟩ (.int .i64 (n : Int))).setCell ⟨L, 3, none⟩ (.string s)).setCell ⟨L, 2, none⟩ (.slice A6 qs.length c)) :=
    (((Chg.refl (fun k => k = L) w7).setIn rfl _ _).setIn rfl _ _).setIn rfl _ _
  refine ⟨o6, o7, rfl, hd.chg k (fun e => hLD e.symm) (fun i hi e => by have := ho7 i hi; omega), ⟨hn, hq, A6, c, five_set132 hh _ _ _, hO.chg k (fun i hi e => by have := ho6 i hi; omega)⟩, ho6, ho7, a.trans k (fun i _ e => .inr e)⟩

set_option maxRecDepth 100000 in
set_option maxHeartbeats 2000000 in
theorem Base_ok {w : World} {L D f n : Nat} {own dOwn : Option Nat} {rs : List ByteArray} {snap note s : ByteArray} {bs : List UInt8} {safe : Nat} (h : LogAt w L D own f rs snap note) (hd : DiskAt w D dOwn bs safe) (hfn : f ≤ n) (hn : n ≤ 1073741824) (hs : s.size ≤ 65536)
    (hroom : (eb (imgs n s note (rs.drop (n - f)))).length ≤ 4194304) :
    Calls Try.prog 27 #[.pointer (some ⟨L, 0, none⟩), .int .i64 (n : Int), .string s] w (Based w L D n (rs.drop (n - f)) s note) := by
  have hN := Next_calls h
  obtain ⟨p1, p2, p3⟩ := log_apart h hd
  have P1 := Lib.hid p1
  have P2 := Lib.hid p2
  have P3 := Lib.hid p3
  have hl := h
  have hLlt := hl.lt
  obtain ⟨h1, h2, A, cap, hh, hO⟩ := h
  obtain ⟨⟨c0, c1, c2, c3, c4⟩, hf⟩ := five_cells hh
  have hcap := hO.2.1
  have hcm := hO.capMax
  obtain ⟨k, hk⟩ : ∃ k, n - f = k := ⟨_, rfl⟩
  rw [hk] at hroom ⊢
  have hnm : ((n : Nat) : Int) ≤ 1073741824 := by omega
  obtain ⟨m, hm⟩ : ∃ m : Int, ((n : Nat) : Int) = m := ⟨_, rfl⟩
  obtain ⟨N, hNN⟩ : ∃ N, f + rs.length = N := ⟨_, rfl⟩
  rw [hNN] at hN
  have g1 : ¬ m < (f : Int) := by omega
  have g2 : ¬ (1073741824 : Int) < m := by omega
  have g4 : m - (f : Int) = (k : Int) := by omega
  have g5 : (0 : Int) ≤ (k : Int) := by omega
  have g7 : ¬ (k : Int) < 0 := by omega
  have gw : IntKind.i64.wrap (k : Int) = (k : Int) := IntWalk.i64_in (k : Int) (by omega)
  have hs' : ¬ (65536 : Int) < (s.size : Int) := by omega
  have hIM : ∀ (w' : World) (S : Nat → Prop) (A' : Option Addr) (m' c' : Nat), LogAt w' L D own f rs snap note → Cs w' S A' m' (sv (rs.drop k)) → (∀ i, S i → i < w'.heap.size) → m' ≤ 1000000 → Calls Try.prog 41 #[.pointer (some ⟨L, 0, none⟩), .int .i64 m, .string s, .slice A' m' c'] w' (Cloned w' (eb (imgs n s note (rs.drop k))).length (eb (imgs n s note (rs.drop k)))) :=
    fun w' S A' m' c' a1 a2 a3 a4 => by rw [← hm]; exact image_calls a1 a2 a3 hn a4 hroom
  have HIM := Lib.hid hIM
  have HROOM := Lib.hid hroom
  have HN := Lib.hid hN
  have HNX := Lib.hid hn
  have HM := Lib.hid hm
  have hql : (rs.drop k).length ≤ 1000000 := by rw [List.length_drop]; omega
  have HQL := Lib.hid hql
  rw [hm]
  by_cases hnN : n ≤ N
  · have hkl : k ≤ rs.length := by omega
    have g8 : (k : Int) ≤ (cap : Int) := by omega
    have g9 : (k : Int) ≤ (rs.length : Int) := by omega
    have g3 : m ≤ (N : Int) := by omega
    have hOd := hO.cs.drop (k := k) hkl hcap
    rw [sv_drop] at hOd
    obtain ⟨X, hX⟩ : ∃ X, (if cap = k then A else A.map (·.add k)) = X := ⟨_, rfl⟩
    rw [hX] at hOd
    have HX := hX
    
    have HOD := Lib.hid hOd
    have H2 := Lib.hid h2
    have HKL := Lib.hid hkl
    clear hf hh hO p1 p2 p3 hIM hroom hN hn hm hNN hnm hql h1 hfn hk hnN hX hOd
    by_cases hck : cap = k
    · rw [if_pos hck] at HX
      subst HX
      have hck := hck.symm
      subst hck
      have hz : rs.length - k = 0 := by omega
      have HOD0 := HOD.out
      rw [hz] at HOD0
      have HOD := Lib.hid HOD0
      clear HOD0 hz
      go_enter Try.func27, Try.ntmps27
      go_wp2_with fail
      refine HN.out.mono ?_
      rintro e w1 ⟨rfl, q1, rfl⟩
      go_wp2_with fail
      refine wp_region_held_drew (S := fun wx => wx.cell? ⟨L, 1, none⟩ = some (.int .i64 (f : Int)) ∧ wx.cell? ⟨L, 2, none⟩ = some (.slice A rs.length k)) (by kernel_rfl) ⟨c1, c2⟩ (fun hHeld => ?_)
      refine take_at (i := 0) (some 28) (v := ?_) rfl rfl (by kernel_rfl) (by kernel_rfl) (by kernel_rfl) (fun _ _ _ h => h) (Or.inl ⟨by rfl, ?_⟩) (by assumption) ?_
      rotate_left
      · (intro wx hSw; go_simp; try (with_reducible rfl))
      try simp only [Act.put, List.setIfInBounds_toArray, List.set_cons_zero, List.set_cons_succ]
      refine take_at (i := 1) (some 29) (v := ?_) rfl rfl (by kernel_rfl) (by kernel_rfl) (by kernel_rfl) (fun _ _ _ h => h) (Or.inl ⟨by rfl, ?_⟩) (by assumption) ?_
      rotate_left
      · (intro wx hSw; go_simp; try (with_reducible rfl))
      try simp only [Act.put, List.setIfInBounds_toArray, List.set_cons_zero, List.set_cons_succ]
      refine take_at (i := 2) (some 30) (v := ?_) rfl rfl (by kernel_rfl) (by kernel_rfl) (by kernel_rfl) (fun _ _ _ h => h) (Or.inl ⟨by rfl, ?_⟩) (by assumption) ?_
      rotate_left
      · (intro wx hSw; go_simp; try (with_reducible rfl))
      try simp only [Act.put, List.setIfInBounds_toArray, List.set_cons_zero, List.set_cons_succ]
      refine take_at (i := 3) (some 31) (v := ?_) rfl rfl (by kernel_rfl) (by kernel_rfl) (by kernel_rfl) (fun _ _ _ h => h) (Or.inl ⟨by rfl, ?_⟩) (by assumption) ?_
      rotate_left
      · (intro wx hSw; go_simp; try (with_reducible rfl))
      try simp only [Act.put, List.setIfInBounds_toArray, List.set_cons_zero, List.set_cons_succ]
      refine take_at (i := 4) (some 32) (v := ?_) rfl rfl (by kernel_rfl) (by kernel_rfl) (by kernel_rfl) (fun _ _ _ h => h) (Or.inl ⟨by rfl, ?_⟩) (by assumption) ?_
      rotate_left
      · (intro wx hSw; go_simp; try (with_reducible rfl))
      try simp only [Act.put, List.setIfInBounds_toArray, List.set_cons_zero, List.set_cons_succ]
      refine take_at (i := 5) (some 33) (v := ?_) rfl rfl (by kernel_rfl) (by kernel_rfl) (by kernel_rfl) (fun _ _ _ h => h) (Or.inl ⟨by rfl, ?_⟩) (by assumption) ?_
      rotate_left
      · (intro wx hSw; go_simp; try (with_reducible rfl))
      try simp only [Act.put, List.setIfInBounds_toArray, List.set_cons_zero, List.set_cons_succ]
      refine take_at (i := 6) (some 34) (v := ?_) rfl rfl (by kernel_rfl) (by kernel_rfl) (by kernel_rfl) (fun _ _ _ h => h) (Or.inl ⟨by rfl, ?_⟩) (by assumption) ?_
      rotate_left
      · (intro wx hSw; go_simp; try (with_reducible rfl))
      try simp only [Act.put, List.setIfInBounds_toArray, List.set_cons_zero, List.set_cons_succ]
      refine take_at (i := 7) (some 35) (v := ?_) rfl rfl (by kernel_rfl) (by kernel_rfl) (by kernel_rfl) (fun _ _ _ h => h) (Or.inl ⟨by rfl, ?_⟩) (by assumption) ?_
      rotate_left
      · (intro wx hSw; go_simp; try (with_reducible rfl))
      try simp only [Act.put, List.setIfInBounds_toArray, List.set_cons_zero, List.set_cons_succ]
      refine take_at (i := 8) (some 36) (v := ?_) rfl rfl (by kernel_rfl) (by kernel_rfl) (by kernel_rfl) (fun _ _ _ h => h) (Or.inl ⟨by rfl, ?_⟩) (by assumption) ?_
      rotate_left
      · (intro wx hSw; go_simp; try (with_reducible rfl))
      try simp only [Act.put, List.setIfInBounds_toArray, List.set_cons_zero, List.set_cons_succ]
      refine take_at (i := 9) (some 37) (v := ?_) rfl rfl (by kernel_rfl) (by kernel_rfl) (by kernel_rfl) (fun _ _ _ h => h) (Or.inl ⟨by rfl, ?_⟩) (by assumption) ?_
      rotate_left
      · (intro wx hSw; go_simp; try (with_reducible rfl))
      try simp only [Act.put, List.setIfInBounds_toArray, List.set_cons_zero, List.set_cons_succ]
      refine take_at (i := 10) (some 38) (v := ?_) rfl rfl (by kernel_rfl) (by kernel_rfl) (by kernel_rfl) (fun _ _ _ h => h) (Or.inl ⟨by rfl, ?_⟩) (by assumption) ?_
      rotate_left
      · (intro wx hSw; go_simp; try (with_reducible rfl))
      try simp only [Act.put, List.setIfInBounds_toArray, List.set_cons_zero, List.set_cons_succ]
      refine take_at (i := 11) (some 39) (v := ?_) rfl rfl (by kernel_rfl) (by kernel_rfl) (by kernel_rfl) (fun _ _ _ h => h) (Or.inl ⟨by rfl, ?_⟩) (by assumption) ?_
      rotate_left
      · (intro wx hSw; go_simp; try (with_reducible rfl))
      try simp only [Act.put, List.setIfInBounds_toArray, List.set_cons_zero, List.set_cons_succ]
      refine wpAnyH_ready (rs := [12]) (by kernel_rfl) (by simp) ?_
      refine AllReadyH.cons rfl (fun K hK => ?_) AllReadyH.nil
      refine step_append rfl _ _ 22 22 rfl 9 16 strsApp none none 0 0 [] (sv (rs.drop k)) _ rfl rfl (Own.nil_ _ _ _) (by exact Src.slice (HOD.out.chg (((Chg.refl (fun _ => False) w).drewN q1).drew) (fun _ _ _ h => h))) (sv_one _) (0) (by rw [sv_length, List.length_drop]; omega) (by omega) (by omega) ?_
      intro o6 A6 c6 w6 hO6 hor6 hc6
      go_simp
      have k6 : Chg (fun _ => False) w w6 := (((Chg.refl (fun _ => False) w).drewN q1).drew).trans (hc6.mono (fun _ _ e => by cases e)) (fun _ _ h => h)
      have hOn6 : ∀ g, o6 = some g → w.heap.size ≤ g := fun g hg => by
        rcases hor6 with h0 | h0
        · rw [h0] at hg; cases hg
        · rw [h0] at hg; injection hg with hg; rw [← hg]; exact Nat.le_refl _
      have e1 := k6.cell c1 (fun h => h)
      have e2 := k6.cell c2 (fun h => h)
      refine hK.out _ _ ?_ (fun hHeld => ?_)
      · (first | exact ⟨c1, c2⟩ | exact ⟨e1, e2⟩)
      clear hK K
      try simp only [Act.put, List.setIfInBounds_toArray, List.set_cons_zero, List.set_cons_succ]
      refine take_at (i := 13) (some 7) (v := ?_) rfl rfl (by kernel_rfl) (by kernel_rfl) (by kernel_rfl) (fun _ _ _ h => h) (Or.inl ⟨by rfl, ?_⟩) (by assumption) ?_
      rotate_left
      · (intro wx hSw; go_simp; try (with_reducible rfl))
      try simp only [Act.put, List.setIfInBounds_toArray, List.set_cons_zero, List.set_cons_succ]
      refine wpAnyH_done (by kernel_rfl) ?_ _
      have hl6 := hl.keep k6
      have hd6 := hd.chg k6 (fun h => h) (fun _ _ h => h)
      have l0 := k6.cell c0 (fun h => h)
      have hOl6 : ∀ g, o6 = some g → w.heap.size ≤ g := hOn6
      have HHS := Lib.hid hs
      clear c1 c2 c3 c4 g1 g2 g3 g4 g5 g7 g8 g9 gw hs' e1 e2 hcap hcm hkl hs
      go_wp2_with fail
      refine wp_region_held_drew (S := fun wx => wx.cell? ⟨L, 0, none⟩ = some (.pointer (some ⟨D, 0, none⟩))) (by kernel_rfl) l0 (fun hHeld => ?_)
      refine take_at (i := 0) (some 41) (v := ?_) rfl rfl (by kernel_rfl) (by kernel_rfl) (by kernel_rfl) (fun _ _ _ h => h) (Or.inl ⟨by rfl, ?_⟩) (by assumption) ?_
      rotate_left
      · (intro wx hSw; go_simp; try (with_reducible rfl))
      try simp only [Act.put, List.setIfInBounds_toArray, List.set_cons_zero, List.set_cons_succ]
      refine take_at (i := 1) (some 42) (v := ?_) rfl rfl (by kernel_rfl) (by kernel_rfl) (by kernel_rfl) (fun _ _ _ h => h) (Or.inl ⟨by rfl, ?_⟩) (by assumption) ?_
      rotate_left
      · (intro wx hSw; go_simp; try (with_reducible rfl))
      try simp only [Act.put, List.setIfInBounds_toArray, List.set_cons_zero, List.set_cons_succ]
      refine take_at (i := 2) (some 43) (v := ?_) rfl rfl (by kernel_rfl) (by kernel_rfl) (by kernel_rfl) (fun _ _ _ h => h) (Or.inl ⟨by rfl, ?_⟩) (by assumption) ?_
      rotate_left
      · (intro wx hSw; go_simp; try (with_reducible rfl))
      try simp only [Act.put, List.setIfInBounds_toArray, List.set_cons_zero, List.set_cons_succ]
      refine take_at (i := 3) (some 44) (v := ?_) rfl rfl (by kernel_rfl) (by kernel_rfl) (by kernel_rfl) (fun _ _ _ h => h) (Or.inl ⟨by rfl, ?_⟩) (by assumption) ?_
      rotate_left
      · (intro wx hSw; go_simp; try (with_reducible rfl))
      try simp only [Act.put, List.setIfInBounds_toArray, List.set_cons_zero, List.set_cons_succ]
      refine take_at (i := 4) (some 45) (v := ?_) rfl rfl (by kernel_rfl) (by kernel_rfl) (by kernel_rfl) (fun _ _ _ h => h) (Or.inl ⟨by rfl, ?_⟩) (by assumption) ?_
      rotate_left
      · (intro wx hSw; go_simp; try (with_reducible rfl))
      try simp only [Act.put, List.setIfInBounds_toArray, List.set_cons_zero, List.set_cons_succ]
      refine take_at (i := 5) (some 46) (v := ?_) rfl rfl (by kernel_rfl) (by kernel_rfl) (by kernel_rfl) (fun _ _ _ h => h) (Or.inl ⟨by rfl, ?_⟩) (by assumption) ?_
      rotate_left
      · (intro wx hSw; go_simp; try (with_reducible rfl))
      try simp only [Act.put, List.setIfInBounds_toArray, List.set_cons_zero, List.set_cons_succ]
      refine take_at (i := 6) (some 47) (v := ?_) rfl rfl (by kernel_rfl) (by kernel_rfl) (by kernel_rfl) (fun _ _ _ h => h) (Or.inl ⟨by rfl, ?_⟩) (by assumption) ?_
      rotate_left
      · (intro wx hSw; go_simp; try (with_reducible rfl))
      try simp only [Act.put, List.setIfInBounds_toArray, List.set_cons_zero, List.set_cons_succ]
      refine take_at (i := 7) (some 48) (v := ?_) rfl rfl (by kernel_rfl) (by kernel_rfl) (by kernel_rfl) (fun _ _ _ h => h) (Or.inl ⟨by rfl, ?_⟩) (by assumption) ?_
      rotate_left
      · (intro wx hSw; go_simp; try (with_reducible rfl))
      try simp only [Act.put, List.setIfInBounds_toArray, List.set_cons_zero, List.set_cons_succ]
      refine wpAnyH_ready (rs := [8]) (by kernel_rfl) (by simp) ?_
      refine AllReadyH.cons rfl (fun K hK => ?_) AllReadyH.nil
      go_simp
      refine (HIM.out _ _ _ _ _ (hl6.keep ((Chg.refl (fun _ => False) _).drew)) (hO6.chg ((Chg.refl (fun _ => False) _).drew) (fun _ _ h => h)).cs (fun i hi => hO6.lt hi) (by have := H2.out; omega)).mono ?_
      rintro e w6b ⟨o7, A7, c7, rfl, hw7, hn7, hc7b⟩
      have k7b : Chg (fun _ => False) w6 w6b := ((Chg.refl (fun _ => False) w6).drew).trans hc7b (fun _ _ h => h)
      have l1 := k7b.cell l0 (fun h => h)
      have hd6b := hd6.chg k7b (fun h => h) (fun _ _ h => h)
      go_wp2_with fail
      refine hK.out _ _ ?_ (fun hHeld => ?_)
      · (first | exact l0 | exact l1 | exact l2)
      clear hK K
      try simp only [Act.put, List.setIfInBounds_toArray, List.set_cons_zero, List.set_cons_succ]
      refine wpAnyH_ready (rs := [9]) (by kernel_rfl) (by simp) ?_
      refine AllReadyH.cons rfl (fun K hK => ?_) AllReadyH.nil
      go_simp
      refine (Swap_ok hd6b hw7.cs HROOM.out).mono ?_
      rintro e w7 ⟨o8, rfl, hd7, hn8, hc7⟩
      have hl7 := (hl6.keep k7b).chg hc7 (fun e => P1.out e) (fun i hi e => (P3.out i hi).2.1 e)
      have hor7 : ∀ g, o8 = some g → w.heap.size ≤ g := fun g hg => by have := hn8 g hg; have := k7b.size; have := k6.size; omega
      have a7 : Chg (fun k => k = D ∨ k = L) w w7 := ((k6.trans k7b (fun _ _ h => h)).wide).trans hc7 (fun i _ e => .inl e)
      have l2 := hc7.cell l1 (fun e => P1.out e)
      go_wp2_with fail
      refine hK.out _ _ ?_ (fun hHeld => ?_)
      · (first | exact l0 | exact l1 | exact l2)
      clear hK K
      try simp only [Act.put, List.setIfInBounds_toArray, List.set_cons_zero, List.set_cons_succ]
      refine take_at (i := 10) (some 8) (v := ?_) rfl rfl (by kernel_rfl) (by kernel_rfl) (by kernel_rfl) (fun _ _ _ h => h) (Or.inl ⟨by rfl, ?_⟩) (by assumption) ?_
      rotate_left
      · (intro wx hSw; go_simp; try (with_reducible rfl))
      try simp only [Act.put, List.setIfInBounds_toArray, List.set_cons_zero, List.set_cons_succ]
      refine wpAnyH_done (by kernel_rfl) ?_ _
      have hl7b := hl7
      obtain ⟨-, -, A0, cap0, hh7, -⟩ := hl7b
      obtain ⟨⟨x0, x1, x2, x3, x4⟩, hf7⟩ := five_cells hh7
      have y1 := hf7 1
      have y2 := hf7 2
      have y3 := hf7 3
      have HH7 := Lib.hid hh7
      clear hf7 hh7
      go_wp2_with fail
      go_ret
      exact based_of hl7 ((hO6.chg k7b (fun _ _ h => h)).chg hc7 (fun i hi e => by have := hOl6 i hi; have := hd.lt; omega)) hd7 HNX.out HQL.out HM.out hOl6 hor7 P1.out hLlt a7
    · rw [if_neg hck] at HX
      subst HX
      go_enter Try.func27, Try.ntmps27
      go_wp2_with fail
      refine HN.out.mono ?_
      rintro e w1 ⟨rfl, q1, rfl⟩
      go_wp2_with fail
      refine wp_region_held_drew (S := fun wx => wx.cell? ⟨L, 1, none⟩ = some (.int .i64 (f : Int)) ∧ wx.cell? ⟨L, 2, none⟩ = some (.slice A rs.length cap)) (by kernel_rfl) ⟨c1, c2⟩ (fun hHeld => ?_)
      refine take_at (i := 0) (some 28) (v := ?_) rfl rfl (by kernel_rfl) (by kernel_rfl) (by kernel_rfl) (fun _ _ _ h => h) (Or.inl ⟨by rfl, ?_⟩) (by assumption) ?_
      rotate_left
      · (intro wx hSw; go_simp; try (with_reducible rfl))
      try simp only [Act.put, List.setIfInBounds_toArray, List.set_cons_zero, List.set_cons_succ]
      refine take_at (i := 1) (some 29) (v := ?_) rfl rfl (by kernel_rfl) (by kernel_rfl) (by kernel_rfl) (fun _ _ _ h => h) (Or.inl ⟨by rfl, ?_⟩) (by assumption) ?_
      rotate_left
      · (intro wx hSw; go_simp; try (with_reducible rfl))
      try simp only [Act.put, List.setIfInBounds_toArray, List.set_cons_zero, List.set_cons_succ]
      refine take_at (i := 2) (some 30) (v := ?_) rfl rfl (by kernel_rfl) (by kernel_rfl) (by kernel_rfl) (fun _ _ _ h => h) (Or.inl ⟨by rfl, ?_⟩) (by assumption) ?_
      rotate_left
      · (intro wx hSw; go_simp; try (with_reducible rfl))
      try simp only [Act.put, List.setIfInBounds_toArray, List.set_cons_zero, List.set_cons_succ]
      refine take_at (i := 3) (some 31) (v := ?_) rfl rfl (by kernel_rfl) (by kernel_rfl) (by kernel_rfl) (fun _ _ _ h => h) (Or.inl ⟨by rfl, ?_⟩) (by assumption) ?_
      rotate_left
      · (intro wx hSw; go_simp; try (with_reducible rfl))
      try simp only [Act.put, List.setIfInBounds_toArray, List.set_cons_zero, List.set_cons_succ]
      refine take_at (i := 4) (some 32) (v := ?_) rfl rfl (by kernel_rfl) (by kernel_rfl) (by kernel_rfl) (fun _ _ _ h => h) (Or.inl ⟨by rfl, ?_⟩) (by assumption) ?_
      rotate_left
      · (intro wx hSw; go_simp; try (with_reducible rfl))
      try simp only [Act.put, List.setIfInBounds_toArray, List.set_cons_zero, List.set_cons_succ]
      refine take_at (i := 5) (some 33) (v := ?_) rfl rfl (by kernel_rfl) (by kernel_rfl) (by kernel_rfl) (fun _ _ _ h => h) (Or.inl ⟨by rfl, ?_⟩) (by assumption) ?_
      rotate_left
      · (intro wx hSw; go_simp; try (with_reducible rfl))
      try simp only [Act.put, List.setIfInBounds_toArray, List.set_cons_zero, List.set_cons_succ]
      refine take_at (i := 6) (some 34) (v := ?_) rfl rfl (by kernel_rfl) (by kernel_rfl) (by kernel_rfl) (fun _ _ _ h => h) (Or.inl ⟨by rfl, ?_⟩) (by assumption) ?_
      rotate_left
      · (intro wx hSw; go_simp; try (with_reducible rfl))
      try simp only [Act.put, List.setIfInBounds_toArray, List.set_cons_zero, List.set_cons_succ]
      refine take_at (i := 7) (some 35) (v := ?_) rfl rfl (by kernel_rfl) (by kernel_rfl) (by kernel_rfl) (fun _ _ _ h => h) (Or.inl ⟨by rfl, ?_⟩) (by assumption) ?_
      rotate_left
      · (intro wx hSw; go_simp; try (with_reducible rfl))
      try simp only [Act.put, List.setIfInBounds_toArray, List.set_cons_zero, List.set_cons_succ]
      refine take_at (i := 8) (some 36) (v := ?_) rfl rfl (by kernel_rfl) (by kernel_rfl) (by kernel_rfl) (fun _ _ _ h => h) (Or.inl ⟨by rfl, ?_⟩) (by assumption) ?_
      rotate_left
      · (intro wx hSw; go_simp; try (with_reducible rfl))
      try simp only [Act.put, List.setIfInBounds_toArray, List.set_cons_zero, List.set_cons_succ]
      refine take_at (i := 9) (some 37) (v := ?_) rfl rfl (by kernel_rfl) (by kernel_rfl) (by kernel_rfl) (fun _ _ _ h => h) (Or.inl ⟨by rfl, ?_⟩) (by assumption) ?_
      rotate_left
      · (intro wx hSw; go_simp; try (with_reducible rfl))
      try simp only [Act.put, List.setIfInBounds_toArray, List.set_cons_zero, List.set_cons_succ]
      refine take_at (i := 10) (some 38) (v := ?_) rfl rfl (by kernel_rfl) (by kernel_rfl) (by kernel_rfl) (fun _ _ _ h => h) (Or.inl ⟨by rfl, ?_⟩) (by assumption) ?_
      rotate_left
      · (intro wx hSw; go_simp; try (with_reducible rfl))
      try simp only [Act.put, List.setIfInBounds_toArray, List.set_cons_zero, List.set_cons_succ]
      refine take_at (i := 11) (some 39) (v := ?_) rfl rfl (by kernel_rfl) (by kernel_rfl) (by kernel_rfl) (fun _ _ _ h => h) (Or.inl ⟨by rfl, ?_⟩) (by assumption) ?_
      rotate_left
      · (intro wx hSw; go_simp; try (with_reducible rfl))
      try simp only [Act.put, List.setIfInBounds_toArray, List.set_cons_zero, List.set_cons_succ]
      refine wpAnyH_ready (rs := [12]) (by kernel_rfl) (by simp) ?_
      refine AllReadyH.cons rfl (fun K hK => ?_) AllReadyH.nil
      refine step_append rfl _ _ 22 22 rfl 9 16 strsApp none none 0 0 [] (sv (rs.drop k)) _ rfl rfl (Own.nil_ _ _ _) (by exact Src.slice (HOD.out.chg (((Chg.refl (fun _ => False) w).drewN q1).drew) (fun _ _ _ h => h))) (sv_one _) (rs.length - k) (by rw [sv_length, List.length_drop]; omega) (by omega) (by omega) ?_
      intro o6 A6 c6 w6 hO6 hor6 hc6
      go_simp
      have k6 : Chg (fun _ => False) w w6 := (((Chg.refl (fun _ => False) w).drewN q1).drew).trans (hc6.mono (fun _ _ e => by cases e)) (fun _ _ h => h)
      have hOn6 : ∀ g, o6 = some g → w.heap.size ≤ g := fun g hg => by
        rcases hor6 with h0 | h0
        · rw [h0] at hg; cases hg
        · rw [h0] at hg; injection hg with hg; rw [← hg]; exact Nat.le_refl _
      have e1 := k6.cell c1 (fun h => h)
      have e2 := k6.cell c2 (fun h => h)
      refine hK.out _ _ ?_ (fun hHeld => ?_)
      · (first | exact ⟨c1, c2⟩ | exact ⟨e1, e2⟩)
      clear hK K
      try simp only [Act.put, List.setIfInBounds_toArray, List.set_cons_zero, List.set_cons_succ]
      refine take_at (i := 13) (some 7) (v := ?_) rfl rfl (by kernel_rfl) (by kernel_rfl) (by kernel_rfl) (fun _ _ _ h => h) (Or.inl ⟨by rfl, ?_⟩) (by assumption) ?_
      rotate_left
      · (intro wx hSw; go_simp; try (with_reducible rfl))
      try simp only [Act.put, List.setIfInBounds_toArray, List.set_cons_zero, List.set_cons_succ]
      refine wpAnyH_done (by kernel_rfl) ?_ _
      have hl6 := hl.keep k6
      have hd6 := hd.chg k6 (fun h => h) (fun _ _ h => h)
      have l0 := k6.cell c0 (fun h => h)
      have hOl6 : ∀ g, o6 = some g → w.heap.size ≤ g := hOn6
      have HHS := Lib.hid hs
      clear c1 c2 c3 c4 g1 g2 g3 g4 g5 g7 g8 g9 gw hs' e1 e2 hcap hcm hkl hs
      go_wp2_with fail
      refine wp_region_held_drew (S := fun wx => wx.cell? ⟨L, 0, none⟩ = some (.pointer (some ⟨D, 0, none⟩))) (by kernel_rfl) l0 (fun hHeld => ?_)
      refine take_at (i := 0) (some 41) (v := ?_) rfl rfl (by kernel_rfl) (by kernel_rfl) (by kernel_rfl) (fun _ _ _ h => h) (Or.inl ⟨by rfl, ?_⟩) (by assumption) ?_
      rotate_left
      · (intro wx hSw; go_simp; try (with_reducible rfl))
      try simp only [Act.put, List.setIfInBounds_toArray, List.set_cons_zero, List.set_cons_succ]
      refine take_at (i := 1) (some 42) (v := ?_) rfl rfl (by kernel_rfl) (by kernel_rfl) (by kernel_rfl) (fun _ _ _ h => h) (Or.inl ⟨by rfl, ?_⟩) (by assumption) ?_
      rotate_left
      · (intro wx hSw; go_simp; try (with_reducible rfl))
      try simp only [Act.put, List.setIfInBounds_toArray, List.set_cons_zero, List.set_cons_succ]
      refine take_at (i := 2) (some 43) (v := ?_) rfl rfl (by kernel_rfl) (by kernel_rfl) (by kernel_rfl) (fun _ _ _ h => h) (Or.inl ⟨by rfl, ?_⟩) (by assumption) ?_
      rotate_left
      · (intro wx hSw; go_simp; try (with_reducible rfl))
      try simp only [Act.put, List.setIfInBounds_toArray, List.set_cons_zero, List.set_cons_succ]
      refine take_at (i := 3) (some 44) (v := ?_) rfl rfl (by kernel_rfl) (by kernel_rfl) (by kernel_rfl) (fun _ _ _ h => h) (Or.inl ⟨by rfl, ?_⟩) (by assumption) ?_
      rotate_left
      · (intro wx hSw; go_simp; try (with_reducible rfl))
      try simp only [Act.put, List.setIfInBounds_toArray, List.set_cons_zero, List.set_cons_succ]
      refine take_at (i := 4) (some 45) (v := ?_) rfl rfl (by kernel_rfl) (by kernel_rfl) (by kernel_rfl) (fun _ _ _ h => h) (Or.inl ⟨by rfl, ?_⟩) (by assumption) ?_
      rotate_left
      · (intro wx hSw; go_simp; try (with_reducible rfl))
      try simp only [Act.put, List.setIfInBounds_toArray, List.set_cons_zero, List.set_cons_succ]
      refine take_at (i := 5) (some 46) (v := ?_) rfl rfl (by kernel_rfl) (by kernel_rfl) (by kernel_rfl) (fun _ _ _ h => h) (Or.inl ⟨by rfl, ?_⟩) (by assumption) ?_
      rotate_left
      · (intro wx hSw; go_simp; try (with_reducible rfl))
      try simp only [Act.put, List.setIfInBounds_toArray, List.set_cons_zero, List.set_cons_succ]
      refine take_at (i := 6) (some 47) (v := ?_) rfl rfl (by kernel_rfl) (by kernel_rfl) (by kernel_rfl) (fun _ _ _ h => h) (Or.inl ⟨by rfl, ?_⟩) (by assumption) ?_
      rotate_left
      · (intro wx hSw; go_simp; try (with_reducible rfl))
      try simp only [Act.put, List.setIfInBounds_toArray, List.set_cons_zero, List.set_cons_succ]
      refine take_at (i := 7) (some 48) (v := ?_) rfl rfl (by kernel_rfl) (by kernel_rfl) (by kernel_rfl) (fun _ _ _ h => h) (Or.inl ⟨by rfl, ?_⟩) (by assumption) ?_
      rotate_left
      · (intro wx hSw; go_simp; try (with_reducible rfl))
      try simp only [Act.put, List.setIfInBounds_toArray, List.set_cons_zero, List.set_cons_succ]
      refine wpAnyH_ready (rs := [8]) (by kernel_rfl) (by simp) ?_
      refine AllReadyH.cons rfl (fun K hK => ?_) AllReadyH.nil
      go_simp
      refine (HIM.out _ _ _ _ _ (hl6.keep ((Chg.refl (fun _ => False) _).drew)) (hO6.chg ((Chg.refl (fun _ => False) _).drew) (fun _ _ h => h)).cs (fun i hi => hO6.lt hi) (by have := H2.out; omega)).mono ?_
      rintro e w6b ⟨o7, A7, c7, rfl, hw7, hn7, hc7b⟩
      have k7b : Chg (fun _ => False) w6 w6b := ((Chg.refl (fun _ => False) w6).drew).trans hc7b (fun _ _ h => h)
      have l1 := k7b.cell l0 (fun h => h)
      have hd6b := hd6.chg k7b (fun h => h) (fun _ _ h => h)
      go_wp2_with fail
      refine hK.out _ _ ?_ (fun hHeld => ?_)
      · (first | exact l0 | exact l1 | exact l2)
      clear hK K
      try simp only [Act.put, List.setIfInBounds_toArray, List.set_cons_zero, List.set_cons_succ]
      refine wpAnyH_ready (rs := [9]) (by kernel_rfl) (by simp) ?_
      refine AllReadyH.cons rfl (fun K hK => ?_) AllReadyH.nil
      go_simp
      refine (Swap_ok hd6b hw7.cs HROOM.out).mono ?_
      rintro e w7 ⟨o8, rfl, hd7, hn8, hc7⟩
      have hl7 := (hl6.keep k7b).chg hc7 (fun e => P1.out e) (fun i hi e => (P3.out i hi).2.1 e)
      have hor7 : ∀ g, o8 = some g → w.heap.size ≤ g := fun g hg => by have := hn8 g hg; have := k7b.size; have := k6.size; omega
      have a7 : Chg (fun k => k = D ∨ k = L) w w7 := ((k6.trans k7b (fun _ _ h => h)).wide).trans hc7 (fun i _ e => .inl e)
      have l2 := hc7.cell l1 (fun e => P1.out e)
      go_wp2_with fail
      refine hK.out _ _ ?_ (fun hHeld => ?_)
      · (first | exact l0 | exact l1 | exact l2)
      clear hK K
      try simp only [Act.put, List.setIfInBounds_toArray, List.set_cons_zero, List.set_cons_succ]
      refine take_at (i := 10) (some 8) (v := ?_) rfl rfl (by kernel_rfl) (by kernel_rfl) (by kernel_rfl) (fun _ _ _ h => h) (Or.inl ⟨by rfl, ?_⟩) (by assumption) ?_
      rotate_left
      · (intro wx hSw; go_simp; try (with_reducible rfl))
      try simp only [Act.put, List.setIfInBounds_toArray, List.set_cons_zero, List.set_cons_succ]
      refine wpAnyH_done (by kernel_rfl) ?_ _
      have hl7b := hl7
      obtain ⟨-, -, A0, cap0, hh7, -⟩ := hl7b
      obtain ⟨⟨x0, x1, x2, x3, x4⟩, hf7⟩ := five_cells hh7
      have y1 := hf7 1
      have y2 := hf7 2
      have y3 := hf7 3
      have HH7 := Lib.hid hh7
      clear hf7 hh7
      go_wp2_with fail
      go_ret
      exact based_of hl7 ((hO6.chg k7b (fun _ _ h => h)).chg hc7 (fun i hi e => by have := hOl6 i hi; have := hd.lt; omega)) hd7 HNX.out HQL.out HM.out hOl6 hor7 P1.out hLlt a7
  · have g3 : ¬ m ≤ (N : Int) := by omega
    have hd0 : rs.drop k = [] := List.drop_of_length_le (by omega)
    have H2 := Lib.hid h2
    have HD0 := Lib.hid hd0
    have hO6 : Own w 9 none none 0 0 (sv (rs.drop k)) := by rw [hd0]; exact Own.nil_ _ _ _
    clear hf hh hO p1 p2 p3 hIM hroom hN hn hm hNN hnm hql h1 hfn hk hnN hd0
    go_enter Try.func27, Try.ntmps27
    go_wp2_with fail
    refine HN.out.mono ?_
    rintro e w1 ⟨rfl, q1, rfl⟩
    have k6 : Chg (fun _ => False) w (w.drewN q1) := (Chg.refl (fun _ => False) w).drewN q1
    have hO6 := hO6.chg k6 (fun _ _ h => h)
    obtain ⟨w6, hw6⟩ : ∃ w6, w.drewN q1 = w6 := ⟨_, rfl⟩
    rw [hw6] at k6 hO6 ⊢
    clear hw6
    have hl6 := hl.keep k6
    have hd6 := hd.chg k6 (fun h => h) (fun _ _ h => h)
    have l0 := k6.cell c0 (fun h => h)
    have hOl6 : ∀ g, (none : Option Nat) = some g → w.heap.size ≤ g := fun g hg => by cases hg
    have HHS := Lib.hid hs
    clear c1 c2 c3 c4 hcap hcm g1 g2 g4 g5 g7 gw hs
    go_wp2_with fail
    refine wp_region_held_drew (S := fun wx => wx.cell? ⟨L, 0, none⟩ = some (.pointer (some ⟨D, 0, none⟩))) (by kernel_rfl) l0 (fun hHeld => ?_)
    refine take_at (i := 0) (some 41) (v := ?_) rfl rfl (by kernel_rfl) (by kernel_rfl) (by kernel_rfl) (fun _ _ _ h => h) (Or.inl ⟨by rfl, ?_⟩) (by assumption) ?_
    rotate_left
    · (intro wx hSw; go_simp; try (with_reducible rfl))
    try simp only [Act.put, List.setIfInBounds_toArray, List.set_cons_zero, List.set_cons_succ]
    refine take_at (i := 1) (some 42) (v := ?_) rfl rfl (by kernel_rfl) (by kernel_rfl) (by kernel_rfl) (fun _ _ _ h => h) (Or.inl ⟨by rfl, ?_⟩) (by assumption) ?_
    rotate_left
    · (intro wx hSw; go_simp; try (with_reducible rfl))
    try simp only [Act.put, List.setIfInBounds_toArray, List.set_cons_zero, List.set_cons_succ]
    refine take_at (i := 2) (some 43) (v := ?_) rfl rfl (by kernel_rfl) (by kernel_rfl) (by kernel_rfl) (fun _ _ _ h => h) (Or.inl ⟨by rfl, ?_⟩) (by assumption) ?_
    rotate_left
    · (intro wx hSw; go_simp; try (with_reducible rfl))
    try simp only [Act.put, List.setIfInBounds_toArray, List.set_cons_zero, List.set_cons_succ]
    refine take_at (i := 3) (some 44) (v := ?_) rfl rfl (by kernel_rfl) (by kernel_rfl) (by kernel_rfl) (fun _ _ _ h => h) (Or.inl ⟨by rfl, ?_⟩) (by assumption) ?_
    rotate_left
    · (intro wx hSw; go_simp; try (with_reducible rfl))
    try simp only [Act.put, List.setIfInBounds_toArray, List.set_cons_zero, List.set_cons_succ]
    refine take_at (i := 4) (some 45) (v := ?_) rfl rfl (by kernel_rfl) (by kernel_rfl) (by kernel_rfl) (fun _ _ _ h => h) (Or.inl ⟨by rfl, ?_⟩) (by assumption) ?_
    rotate_left
    · (intro wx hSw; go_simp; try (with_reducible rfl))
    try simp only [Act.put, List.setIfInBounds_toArray, List.set_cons_zero, List.set_cons_succ]
    refine take_at (i := 5) (some 46) (v := ?_) rfl rfl (by kernel_rfl) (by kernel_rfl) (by kernel_rfl) (fun _ _ _ h => h) (Or.inl ⟨by rfl, ?_⟩) (by assumption) ?_
    rotate_left
    · (intro wx hSw; go_simp; try (with_reducible rfl))
    try simp only [Act.put, List.setIfInBounds_toArray, List.set_cons_zero, List.set_cons_succ]
    refine take_at (i := 6) (some 47) (v := ?_) rfl rfl (by kernel_rfl) (by kernel_rfl) (by kernel_rfl) (fun _ _ _ h => h) (Or.inl ⟨by rfl, ?_⟩) (by assumption) ?_
    rotate_left
    · (intro wx hSw; go_simp; try (with_reducible rfl))
    try simp only [Act.put, List.setIfInBounds_toArray, List.set_cons_zero, List.set_cons_succ]
    refine take_at (i := 7) (some 48) (v := ?_) rfl rfl (by kernel_rfl) (by kernel_rfl) (by kernel_rfl) (fun _ _ _ h => h) (Or.inl ⟨by rfl, ?_⟩) (by assumption) ?_
    rotate_left
    · (intro wx hSw; go_simp; try (with_reducible rfl))
    try simp only [Act.put, List.setIfInBounds_toArray, List.set_cons_zero, List.set_cons_succ]
    refine wpAnyH_ready (rs := [8]) (by kernel_rfl) (by simp) ?_
    refine AllReadyH.cons rfl (fun K hK => ?_) AllReadyH.nil
    go_simp
    refine (HIM.out _ _ _ _ _ (hl6.keep ((Chg.refl (fun _ => False) _).drew)) (hO6.chg ((Chg.refl (fun _ => False) _).drew) (fun _ _ h => h)).cs (fun i hi => hO6.lt hi) (by have := H2.out; omega)).mono ?_
    rintro e w6b ⟨o7, A7, c7, rfl, hw7, hn7, hc7b⟩
    have k7b : Chg (fun _ => False) w6 w6b := ((Chg.refl (fun _ => False) w6).drew).trans hc7b (fun _ _ h => h)
    have l1 := k7b.cell l0 (fun h => h)
    have hd6b := hd6.chg k7b (fun h => h) (fun _ _ h => h)
    go_wp2_with fail
    refine hK.out _ _ ?_ (fun hHeld => ?_)
    · (first | exact l0 | exact l1 | exact l2)
    clear hK K
    try simp only [Act.put, List.setIfInBounds_toArray, List.set_cons_zero, List.set_cons_succ]
    refine wpAnyH_ready (rs := [9]) (by kernel_rfl) (by simp) ?_
    refine AllReadyH.cons rfl (fun K hK => ?_) AllReadyH.nil
    go_simp
    refine (Swap_ok hd6b hw7.cs HROOM.out).mono ?_
    rintro e w7 ⟨o8, rfl, hd7, hn8, hc7⟩
    have hl7 := (hl6.keep k7b).chg hc7 (fun e => P1.out e) (fun i hi e => (P3.out i hi).2.1 e)
    have hor7 : ∀ g, o8 = some g → w.heap.size ≤ g := fun g hg => by have := hn8 g hg; have := k7b.size; have := k6.size; omega
    have a7 : Chg (fun k => k = D ∨ k = L) w w7 := ((k6.trans k7b (fun _ _ h => h)).wide).trans hc7 (fun i _ e => .inl e)
    have l2 := hc7.cell l1 (fun e => P1.out e)
    go_wp2_with fail
    refine hK.out _ _ ?_ (fun hHeld => ?_)
    · (first | exact l0 | exact l1 | exact l2)
    clear hK K
    try simp only [Act.put, List.setIfInBounds_toArray, List.set_cons_zero, List.set_cons_succ]
    refine take_at (i := 10) (some 8) (v := ?_) rfl rfl (by kernel_rfl) (by kernel_rfl) (by kernel_rfl) (fun _ _ _ h => h) (Or.inl ⟨by rfl, ?_⟩) (by assumption) ?_
    rotate_left
    · (intro wx hSw; go_simp; try (with_reducible rfl))
    try simp only [Act.put, List.setIfInBounds_toArray, List.set_cons_zero, List.set_cons_succ]
    refine wpAnyH_done (by kernel_rfl) ?_ _
    have hl7b := hl7
    obtain ⟨-, -, A0, cap0, hh7, -⟩ := hl7b
    obtain ⟨⟨x0, x1, x2, x3, x4⟩, hf7⟩ := five_cells hh7
    have y1 := hf7 1
    have y2 := hf7 2
    have y3 := hf7 3
    have HH7 := Lib.hid hh7
    clear hf7 hh7
    go_wp2_with fail
    go_ret
    exact based_of hl7 ((hO6.chg k7b (fun _ _ h => h)).chg hc7 (fun i hi e => by have := hOl6 i hi; have := hd.lt; omega)) hd7 HNX.out HQL.out HM.out hOl6 hor7 P1.out hLlt a7
end Go.Proofs.Ytlnjadnddldjeaa
