/-
  Contract of package session's Load, for any bytes.
-/
import Derived.Test.YtiibkbkcncmjoaaSave2
namespace Go.Proofs.Ytiibkbkcncmjoaa
open Go.RowKit
set_option linter.unusedVariables false
set_option linter.unusedSimpArgs false

theorem bytesEqual_calls {w : World} {S S' : Nat → Prop} {A A' : Option Addr} {n n' c c' : Nat} {l r : List UInt8} (h : Cs w S A n (bv l)) (h' : Cs w S' A' n' (bv r)) :
    Calls Try.prog 62 #[.slice A n c, .slice A' n' c'] w fun e w' => e = .returned (.bool (l == r)) ∧ w = w' := by
  have hsl := str_toList
  have e1 := run_string (P := Try.prog) (c := c) Try.underlying22 Try.underlying5 Try.underlying9 h
  have e2 := run_string (P := Try.prog) (c := c') Try.underlying22 Try.underlying5 Try.underlying9 h'
  go_enter Try.func62, Try.ntmps62
  go_wp2_with fail
  go_ret
  exact ⟨rfl, rfl⟩

/-- what Load leaves -/
def Loaded (w : World) (l : List UInt8) (e : Ending) (w' : World) : Prop :=
  Chg (fun _ => False) w w' ∧ ((e = .returned (.tuple #[.pointer none, .int .i64 12]) ∧ ¬ Good l) ∨ ∃ T, e = .returned (.tuple #[.pointer (some ⟨T, 0, none⟩), .int .i64 0]) ∧ w.heap.size ≤ T ∧ TblAt w' T (sloads l 16).1 ∧ Good l)
theorem Loaded.no {w w' : World} {l : List UInt8} (h : Chg (fun _ => False) w w') (hg : ¬ Good l) : Loaded w l (.returned (.tuple #[.pointer none, .int .i64 12])) w' := ⟨h, .inl ⟨rfl, hg⟩⟩

set_option maxRecDepth 100000 in
set_option maxHeartbeats 8000000 in
theorem Load_calls {w : World} {S : Nat → Prop} {A : Option Addr} {n c : Nat} {l : List UInt8} (h : Cs w S A n (bv l)) (hn : n ≤ 140737488355328) :
    Calls Try.prog 43 #[.slice A n c] w (Loaded w l) := by
  have hsl := str_toList
  have hll : l.length = n := by rw [← bv_length]; exact h.1
  have HLL := Lib.hid hll
  clear hll
  go_enter Try.func43, Try.ntmps43
  go_wp2_with fail
  refine (NewReader_calls (fun k => w.heap.size ≤ k) h hn (fun k hk => hk)).mono ?_
  rintro e w1 ⟨R, rfl, hR, r1, hc1⟩
  obtain ⟨D, hD⟩ : ∃ D, w.heap.size = D := ⟨_, rfl⟩
  rw [hD] at hR r1
  have HD := Lib.hid hD
  have hz1 := hc1.size
  rw [hD] at hz1
  clear hD
  go_wp2_with fail
  refine (Tbl_new w1).mono ?_
  rintro e w2 ⟨rfl, ht2, hc2⟩
  obtain ⟨T, hT⟩ : ∃ T, w1.heap.size = T := ⟨_, rfl⟩
  have r2 := (r1.mono (V' := fun k => D ≤ k ∧ k < T) (fun k hk hv => ⟨hv, by omega⟩)).keep hc2
  rw [hT] at ht2 hz1 ⊢
  have a2 := hc1.trans hc2 (fun _ _ h => h)
  have hRV := r2.inV
  have hTlt := ht2.lt
  clear hc1 hc2 r1 hT
  have a2 : Chg (fun k => D ≤ k) w w2 := a2.wide
  go_wp2_with fail
  go_loopw [13] (fun i wr => ∃ k : Nat, k ≤ 16 ∧ i = .int .i64 k ∧ RdAt (fun k => D ≤ k ∧ k < T) wr R l (sloads l k).2 ∧ TblAt wr T (sloads l k).1 ∧ Hid (∀ i, i < k → svalid (srec l (sloads l i).2).1) ∧ Chg (fun k => D ≤ k) w wr) (fun i _ => 16 - (intOf i).toNat)
  case atStart => exact ⟨0, Nat.zero_le _, rfl, r2, ht2, Lib.hid (fun i h => absurd h (by omega)), a2⟩
  case round =>
    clear r2 ht2 a2 hTlt
    obtain ⟨k, hk, rfl, r, ht, HV, a⟩ := hrel
    by_cases hk16 : k < 16
    · have hnext : sloads l (k + 1) = (supd (sloads l k).1 k (srec l (sloads l k).2).1, (srec l (sloads l k).2).2) := rfl
      have hget : ∀ {N : Nat}, k < N → (sloads l N).1 k = (srec l (sloads l k).2).1 := fun h => sloads_get h
      have hbad : ¬ svalid (srec l (sloads l k).2).1 → ¬ Good l := fun hn hg => hn (by rw [← sloads_get hk16]; exact hg.1 k hk16)
      have hvnext : svalid (srec l (sloads l k).2).1 → ∀ i, i < k + 1 → svalid (srec l (sloads l i).2).1 := fun hv i hi => by
        by_cases e : i = k
        · rw [e]; exact hv
        · exact HV.out i (by omega)
      clear hget
      generalize sloads l k = S at r ht hnext hbad hvnext
      obtain ⟨f, s⟩ := S
      simp only at r ht hnext hbad hvnext
      have hp1 := r.pos
      have q1 := RLong_calls r
      unfold srec at hnext hbad hvnext
      generalize s64 (num (rtake l 8 s).1) = rq at q1 hnext hbad hvnext
      generalize (rtake l 8 s).2 = s1 at q1 hnext hbad hvnext
      have Q1 := Lib.hid q1
      have HNEXT := Lib.hid hnext
      have HBAD := Lib.hid hbad
      have HVN := Lib.hid hvnext
      clear q1 hnext hbad hvnext
      go_wp2_with fail
      refine Q1.out.mono ?_
      rintro e w3 ⟨rfl, r3, hc3⟩
      have a3 := a.trans hc3 (fun _ _ h => by omega)
      have ht3 := ht.chg hc3 (fun h => by omega)
      clear a ht r
      obtain ⟨X, hX⟩ : ∃ X, w3.heap.size = X := ⟨_, rfl⟩
      have hXT : T < X := by have := ht3.lt; omega
      have q2 := RLong_calls (r3.keep ((Chg.refl _ w3).alloc (.cells #[.int .i64 rq, .int .i64 0, .int .i64 0, .string ⟨#[]⟩] 94)))
      have hnext := HNEXT.out
      have hbad := HBAD.out
      have hvn := HVN.out
      generalize s64 (num (rtake l 8 s1).1) = ry at q2 hnext hbad hvn
      generalize (rtake l 8 s1).2 = s2 at q2 hnext hbad hvn
      have Q2 := Lib.hid q2
      clear q2 HNEXT HBAD HVN
      have HNEXT := Lib.hid hnext
      have HBAD := Lib.hid hbad
      have HVN := Lib.hid hvn
      clear hnext hbad hvn
      have hhX : (w3.alloc (.cells #[.int .i64 rq, .int .i64 0, .int .i64 0, .string ⟨#[]⟩] 94)).heap[X]? = some (.cells #[.int .i64 rq, .int .i64 0, .int .i64 0, .string ⟨#[]⟩] 94 (0, 0)) := by
        rw [← hX]; exact heap_alloc_new w3 _
      have ht3 := ht3.keep ((Chg.refl _ w3).alloc (.cells #[.int .i64 rq, .int .i64 0, .int .i64 0, .string ⟨#[]⟩] 94))
      have a3 := a3.alloc (.cells #[.int .i64 rq, .int .i64 0, .int .i64 0, .string ⟨#[]⟩] 94)
      have HX := Lib.hid hX
      clear hX
      go_wp2_with fail
      rw [HX.out]
      refine Q2.out.mono ?_
      rintro e w4 ⟨rfl, r4, hc4⟩
      have a4 := a3.trans hc4 (fun _ _ h => by omega)
      have ht4 := ht3.chg hc4 (fun h => by omega)
      have hhX4 := hc4.heap hhX (fun h => by omega)
      clear a3 ht3 hhX r3
      have q3 := RLong_calls r4
      have hnext := HNEXT.out
      have hbad := HBAD.out
      have hvn := HVN.out
      generalize s64 (num (rtake l 8 s2).1) = ra at q3 hnext hbad hvn
      generalize (rtake l 8 s2).2 = s3 at q3 hnext hbad hvn
      have Q3 := Lib.hid q3
      clear q3 HNEXT HBAD HVN
      have HNEXT := Lib.hid hnext
      have HBAD := Lib.hid hbad
      have HVN := Lib.hid hvn
      clear hnext hbad hvn
      go_wp2_with fail
      refine Q3.out.mono ?_
      rintro e w5 ⟨rfl, r5, hc5⟩
      have a5 := a4.trans hc5 (fun _ _ h => by omega)
      have ht5 := ht4.chg hc5 (fun h => by omega)
      have hhX5 := hc5.heap hhX4 (fun h => by omega)
      clear a4 ht4 hhX4 r4
      obtain ⟨⟨x0, x1, x2, x3⟩, f0, f1, f2, f3⟩ := four_cells hhX5
      have hhX6 := four_set2 (four_set1 hhX5 (.int .i64 ry)) (.int .i64 ra)
      have cc : Chg (fun k => k = X) w5 ((w5.setCell ⟨X, 1, none⟩ (.int .i64 ry)).setCell ⟨X, 2, none⟩ (.int .i64 ra)) := ((Chg.refl (fun k => k = X) w5).setIn rfl _ _).setIn rfl _ _
      have hhX7 := four_set3 hhX6 (.string ⟨#[]⟩)
      have cc7 := cc.setIn (D := X) rfl 3 (.string ⟨#[]⟩)
      have r7 := r5.chg cc7 (fun k hk h1 h2 => by omega)
      have ht7 := ht5.chg cc7 (fun h => by omega)
      have hDX : D ≤ X := by omega
      have a7 := a5.trans cc7 (fun i _ h => by omega)
      go_wp2_with fail
      clear x0 x1 x2 x3 f0 f1 f2 f3 hhX5 hhX6 cc cc7 r5 ht5 a5
      generalize ((w5.setCell ⟨X, 1, none⟩ (.int .i64 ry)).setCell ⟨X, 2, none⟩ (.int .i64 ra)).setCell ⟨X, 3, none⟩ (.string ⟨#[]⟩) = w7 at hhX7 r7 ht7 a7 ⊢
      have q4 := get_text r7
      have hnext := HNEXT.out
      have hbad := HBAD.out
      have hvn := HVN.out
      generalize (sget l s3).1 = nm at q4 hnext hbad hvn
      generalize (sget l s3).2 = s4 at q4 hnext hbad hvn
      have Q4 := Lib.hid q4
      clear q4 HNEXT HBAD HVN
      have HNEXT := Lib.hid hnext
      have HBAD := Lib.hid hbad
      have HVN := Lib.hid hvn
      clear hnext hbad hvn
      refine Q4.out.mono ?_
      rintro e w8 ⟨rfl, r8, hc8⟩
      as_aux_lemma =>
        have a8 := a7.trans hc8 (fun _ _ h => by omega)
        have ht8 := ht7.chg hc8 (fun h => by omega)
        have hhX8 := hc8.heap hhX7 (fun h => by omega)
        clear a7 ht7 hhX7 r7
        have hhX9 := four_set3 hhX8 (.string (str nm))
        have a9 := a8.setIn (D := X) hDX 3 (.string (str nm))
        have r9 := r8.chg (Chg.one w8 ⟨X, 3, none⟩ (.string (str nm))) (fun k hk h1 h2 => by simp only at h2; omega)
        have ht9 := ht8.chg (Chg.one w8 ⟨X, 3, none⟩ (.string (str nm))) (fun h => by simp only at h; omega)
        obtain ⟨⟨x0, x1, x2, x3⟩, f0, f1, f2, f3⟩ := four_cells hhX8
        obtain ⟨⟨y0, y1, y2, y3⟩, -⟩ := four_cells hhX9
        have hnil : str nm = ⟨#[]⟩ ↔ nm = [] := ⟨fun h => congrArg (fun s : ByteArray => s.data.toList) h, fun h => by rw [h]; rfl⟩
        have HNIL := Lib.hid hnil
        clear hhX8 a8 r8 ht8 hnil
        by_cases hv : svalid ⟨rq, ry, ra, str nm⟩
        · have hcase : (1 ≤ rq ∧ rq ≤ 1073741824) ∨ (rq = 0 ∧ ry = 0 ∧ ra = 0 ∧ nm = []) := by
            obtain ⟨h1, h2, h3⟩ := hv
            simp only at h1 h2 h3
            by_cases h0 : rq = 0
            · obtain ⟨h4, h5, h6⟩ := h3 h0
              exact .inr ⟨h0, h4, h5, HNIL.out.1 h6⟩
            · exact .inl (by omega)
          have hvn := HVN.out hv
          have HVN2 := Lib.hid hvn
          clear hv hvn HVN
          rcases hcase with ⟨v1, v2⟩ | ⟨rfl, rfl, rfl, rfl⟩
          · have hb0 : (rq == 0) = false := beq_eq_false_iff_ne.2 (by omega)
            have hk0 : (0 : Int) ≤ (k : Int) := by omega
            have hk1 : (k : Int) < 16 := by omega
            go_wp2_with fail
            obtain ⟨g0, g1, g2, g3, e0, e1, e2, e3⟩ := ht9.rec hk16
            have hXT1 : ¬ X = T := by omega
            have hXT2 : ¬ T = X := by omega
            refine wp_region_held_drew (S := fun wx => wx.cell? ⟨X, 0, none⟩ = some (.int .i64 rq) ∧ wx.cell? ⟨X, 1, none⟩ = some (.int .i64 ry) ∧ wx.cell? ⟨X, 2, none⟩ = some (.int .i64 ra) ∧ wx.cell? ⟨X, 3, none⟩ = some (.string (str nm))) (by kernel_rfl) ⟨y0, y1, y2, y3⟩ (fun hHeld => ?_)
            refine take_at (i := 0) (some 48) (v := ?_) rfl rfl (by kernel_rfl) (by kernel_rfl) (by kernel_rfl) (fun _ _ _ h => h) (Or.inl ⟨by rfl, ?_⟩) (by assumption) ?_
            rotate_left
            · (intro wx hSw; go_simp; try (with_reducible rfl))
            try simp only [Act.put, List.setIfInBounds_toArray, List.set_cons_zero, List.set_cons_succ]
            refine take_at (i := 1) (some 49) (v := ?_) rfl rfl (by kernel_rfl) (by kernel_rfl) (by kernel_rfl) (fun _ _ _ h => h) (Or.inl ⟨by rfl, ?_⟩) (by assumption) ?_
            rotate_left
            · (intro wx hSw; go_simp; try (with_reducible rfl))
            try simp only [Act.put, List.setIfInBounds_toArray, List.set_cons_zero, List.set_cons_succ]
            refine take_at (i := 2) (some 50) (v := ?_) rfl rfl (by kernel_rfl) (by kernel_rfl) (by kernel_rfl) (fun _ _ _ h => h) (Or.inl ⟨by rfl, ?_⟩) (by assumption) ?_
            rotate_left
            · (intro wx hSw; go_simp; try (with_reducible rfl))
            try simp only [Act.put, List.setIfInBounds_toArray, List.set_cons_zero, List.set_cons_succ]
            refine take_at (i := 3) (some 51) (v := ?_) rfl rfl (by kernel_rfl) (by kernel_rfl) (by kernel_rfl) (fun _ _ _ h => h) (Or.inl ⟨by rfl, ?_⟩) (by assumption) ?_
            rotate_left
            · (intro wx hSw; go_simp; try (with_reducible rfl))
            try simp only [Act.put, List.setIfInBounds_toArray, List.set_cons_zero, List.set_cons_succ]
            refine take_at (i := 4) (some 52) (v := ?_) rfl rfl (by kernel_rfl) (by kernel_rfl) (by kernel_rfl) (fun _ _ _ h => h) (Or.inl ⟨by rfl, ?_⟩) (by assumption) ?_
            rotate_left
            · (intro wx hSw; go_simp; try (with_reducible rfl))
            try simp only [Act.put, List.setIfInBounds_toArray, List.set_cons_zero, List.set_cons_succ]
            refine take_at (i := 5) (some 53) (v := ?_) rfl rfl (by kernel_rfl) (by kernel_rfl) (by kernel_rfl) (fun _ _ _ h => h) (Or.inl ⟨by rfl, ?_⟩) (by assumption) ?_
            rotate_left
            · (intro wx hSw; go_simp; try (with_reducible rfl))
            try simp only [Act.put, List.setIfInBounds_toArray, List.set_cons_zero, List.set_cons_succ]
            refine wpAnyH_ready (rs := [6]) (by kernel_rfl) (by simp) ?_
            refine AllReadyH.cons rfl (fun K hK => ?_) AllReadyH.nil
            go_simp
            refine hK.out _ _ ?_ (fun hHeld => ?_)
            · (go_keep)
            clear hK K
            try simp only [Act.put, List.setIfInBounds_toArray, List.set_cons_zero, List.set_cons_succ]
            refine wpAnyH_done (by kernel_rfl) ?_ _
            go_wp2_with fail
            go_roundw
            case rel => exact ⟨k + 1, by omega, by go_num, (by rw [HNEXT.out]; exact r9.chg ((put_chg (q := rq) (y := ry) (a := ra) (z := str nm) (k := k) (Chg.refl (fun i => i = T) _)).drew) (fun i hi h1 h2 => by omega)), (by rw [HNEXT.out]; exact ((ht9.put hk16 ⟨rq, ry, ra, str nm⟩).keep ((Chg.refl (fun _ => False) _).drew))), HVN2, a9.trans ((put_chg (q := rq) (y := ry) (a := ra) (z := str nm) (k := k) (Chg.refl (fun i => i = T) _)).drew) (fun i _ h => by omega)⟩
            case measure => simp [intOf]; omega
          · have hk0 : (0 : Int) ≤ (k : Int) := by omega
            have hk1 : (k : Int) < 16 := by omega
            go_wp2_with fail
            obtain ⟨g0, g1, g2, g3, e0, e1, e2, e3⟩ := ht9.rec hk16
            have hXT1 : ¬ X = T := by omega
            have hXT2 : ¬ T = X := by omega
            refine wp_region_held_drew (S := fun wx => wx.cell? ⟨X, 0, none⟩ = some (.int .i64 0) ∧ wx.cell? ⟨X, 1, none⟩ = some (.int .i64 0) ∧ wx.cell? ⟨X, 2, none⟩ = some (.int .i64 0) ∧ wx.cell? ⟨X, 3, none⟩ = some (.string (str []))) (by kernel_rfl) ⟨y0, y1, y2, y3⟩ (fun hHeld => ?_)
            refine take_at (i := 0) (some 48) (v := ?_) rfl rfl (by kernel_rfl) (by kernel_rfl) (by kernel_rfl) (fun _ _ _ h => h) (Or.inl ⟨by rfl, ?_⟩) (by assumption) ?_
            rotate_left
            · (intro wx hSw; go_simp; try (with_reducible rfl))
            try simp only [Act.put, List.setIfInBounds_toArray, List.set_cons_zero, List.set_cons_succ]
            refine take_at (i := 1) (some 49) (v := ?_) rfl rfl (by kernel_rfl) (by kernel_rfl) (by kernel_rfl) (fun _ _ _ h => h) (Or.inl ⟨by rfl, ?_⟩) (by assumption) ?_
            rotate_left
            · (intro wx hSw; go_simp; try (with_reducible rfl))
            try simp only [Act.put, List.setIfInBounds_toArray, List.set_cons_zero, List.set_cons_succ]
            refine take_at (i := 2) (some 50) (v := ?_) rfl rfl (by kernel_rfl) (by kernel_rfl) (by kernel_rfl) (fun _ _ _ h => h) (Or.inl ⟨by rfl, ?_⟩) (by assumption) ?_
            rotate_left
            · (intro wx hSw; go_simp; try (with_reducible rfl))
            try simp only [Act.put, List.setIfInBounds_toArray, List.set_cons_zero, List.set_cons_succ]
            refine take_at (i := 3) (some 51) (v := ?_) rfl rfl (by kernel_rfl) (by kernel_rfl) (by kernel_rfl) (fun _ _ _ h => h) (Or.inl ⟨by rfl, ?_⟩) (by assumption) ?_
            rotate_left
            · (intro wx hSw; go_simp; try (with_reducible rfl))
            try simp only [Act.put, List.setIfInBounds_toArray, List.set_cons_zero, List.set_cons_succ]
            refine take_at (i := 4) (some 52) (v := ?_) rfl rfl (by kernel_rfl) (by kernel_rfl) (by kernel_rfl) (fun _ _ _ h => h) (Or.inl ⟨by rfl, ?_⟩) (by assumption) ?_
            rotate_left
            · (intro wx hSw; go_simp; try (with_reducible rfl))
            try simp only [Act.put, List.setIfInBounds_toArray, List.set_cons_zero, List.set_cons_succ]
            refine take_at (i := 5) (some 53) (v := ?_) rfl rfl (by kernel_rfl) (by kernel_rfl) (by kernel_rfl) (fun _ _ _ h => h) (Or.inl ⟨by rfl, ?_⟩) (by assumption) ?_
            rotate_left
            · (intro wx hSw; go_simp; try (with_reducible rfl))
            try simp only [Act.put, List.setIfInBounds_toArray, List.set_cons_zero, List.set_cons_succ]
            refine wpAnyH_ready (rs := [6]) (by kernel_rfl) (by simp) ?_
            refine AllReadyH.cons rfl (fun K hK => ?_) AllReadyH.nil
            go_simp
            refine hK.out _ _ ?_ (fun hHeld => ?_)
            · (go_keep)
            clear hK K
            try simp only [Act.put, List.setIfInBounds_toArray, List.set_cons_zero, List.set_cons_succ]
            refine wpAnyH_done (by kernel_rfl) ?_ _
            go_wp2_with fail
            go_roundw
            case rel => exact ⟨k + 1, by omega, by go_num, (by rw [HNEXT.out]; exact r9.chg ((put_chg (q := 0) (y := 0) (a := 0) (z := str []) (k := k) (Chg.refl (fun i => i = T) _)).drew) (fun i hi h1 h2 => by omega)), (by rw [HNEXT.out]; exact ((ht9.put hk16 ⟨0, 0, 0, str []⟩).keep ((Chg.refl (fun _ => False) _).drew))), HVN2, a9.trans ((put_chg (q := 0) (y := 0) (a := 0) (z := str []) (k := k) (Chg.refl (fun i => i = T) _)).drew) (fun i _ h => by omega)⟩
            case measure => simp [intOf]; omega
        · have hcase : rq < 0 ∨ (¬ rq < 0 ∧ 1073741824 < rq) ∨ (rq = 0 ∧ ry ≠ 0) ∨ (rq = 0 ∧ ry = 0 ∧ ra ≠ 0) ∨ (rq = 0 ∧ ry = 0 ∧ ra = 0 ∧ nm ≠ []) := by
            by_cases h1 : rq < 0
            · exact .inl h1
            by_cases h2 : 1073741824 < rq
            · exact .inr (.inl ⟨h1, h2⟩)
            by_cases h0 : rq = 0
            · by_cases h3 : ry = 0
              · by_cases h4 : ra = 0
                · by_cases h5 : nm = []
                  · exact absurd ⟨by simp only; omega, by simp only; omega, fun _ => ⟨h3, h4, HNIL.out.2 h5⟩⟩ hv
                  · exact .inr (.inr (.inr (.inr ⟨h0, h3, h4, h5⟩)))
                · exact .inr (.inr (.inr (.inl ⟨h0, h3, h4⟩)))
              · exact .inr (.inr (.inl ⟨h0, h3⟩))
            · exact absurd ⟨by simp only; omega, by simp only; omega, fun h => absurd h h0⟩ hv
          have hb := HBAD.out hv
          have HB := Lib.hid hb
          clear hv hb
          have HA9 := Lib.hid a9
          rcases hcase with h1 | ⟨h1, h2⟩ | ⟨rfl, h1⟩ | ⟨rfl, rfl, h1⟩ | ⟨rfl, rfl, rfl, h1⟩
          · go_wp2_with fail
            go_ret2
            exact Loaded.no (a9.new fun k hk h => by have := HD.out; omega) HB.out
          · go_wp2_with fail
            go_ret2
            exact Loaded.no (a9.new fun k hk h => by have := HD.out; omega) HB.out
          · have hb1 : (ry == 0) = false := beq_eq_false_iff_ne.2 h1
            have hb2 : (ry != 0) = true := by simp [h1]
            clear h1
            go_wp2_with fail
            go_ret2
            exact Loaded.no (a9.new fun k hk h => by have := HD.out; omega) HB.out
          · have hb1 : (ra == 0) = false := beq_eq_false_iff_ne.2 h1
            have hb2 : (ra != 0) = true := by simp [h1]
            clear h1
            go_wp2_with fail
            go_ret2
            exact Loaded.no (a9.new fun k hk h => by have := HD.out; omega) HB.out
          · have hb1 : (nm == []) = false := beq_eq_false_iff_ne.2 h1
            have hb2 : (nm != []) = true := by simp [h1]
            have hb3 : nm.isEmpty = false := by cases nm with | nil => exact absurd rfl h1 | cons => rfl
            clear h1
            go_wp2_with fail
            go_ret2
            exact Loaded.no (a9.new fun k hk h => by have := HD.out; omega) HB.out
    · obtain rfl : k = 16 := by omega
      have hsz := sloads_size l 16
      have hgood : Good l ↔ ((sloads l 16).2.y = 0 ∧ ¬ (sloads l 16).2.p < l.length ∧ ssave (sloads l 16).1 16 = l) := by
        have hall : ∀ k, k < 16 → svalid ((sloads l 16).1 k) := fun k hk => by rw [sloads_get hk]; exact HV.out k hk
        exact ⟨fun h => h.2, fun h => ⟨hall, h⟩⟩
      have HSZ := Lib.hid hsz
      have HGOOD := Lib.hid hgood
      have hcsl := h.chg (a.new fun k hk h => by have := HD.out; omega) (fun _ _ _ h => h)
      clear hsz hgood
      have HLO : Hid (∀ w', TblAt w' T (sloads l 16).1 → Chg (fun _ => False) w w' → Good l → Loaded w l (.returned (.tuple #[.pointer (some ⟨T, 0, none⟩), .int .i64 0])) w') := Lib.hid (fun w' h1 h2 h3 => ⟨h2, .inr ⟨T, rfl, by have := HD.out; omega, h1, h3⟩⟩)
      generalize sloads l 16 = S at r ht HSZ HGOOD HLO
      obtain ⟨f, s⟩ := S
      simp only at r ht HSZ HGOOD HLO
      have hend := End_calls r
      by_cases hok : s.y = 0 ∧ ¬ s.p < l.length
      · obtain ⟨hy, hp⟩ := hok
        have e1 : rwhy l s = 0 := by rw [rwhy, if_pos hy, if_neg hp]
        rw [e1] at hend
        have hroom : (ssave f 16).length ≤ 140737488355328 := by have h1 := HSZ.out.2 hy; have h2 := HSZ.out.1; have := HLL.out; omega
        generalize rwhere l s = z at hend
        have HE := Lib.hid hend
        clear hend e1
        go_wp2_with fail
        refine HE.out.mono ?_
        rintro e w3 ⟨rfl, d3, rfl⟩
        go_wp2_with fail
        refine (Save_calls (ht.keep ((Chg.refl _ wr).drewN d3)) hroom).mono ?_
        rintro e w4 ⟨o4, A4, c4, rfl, h4, hn4, hc4⟩
        have k4 : Chg (fun _ => False) wr w4 := ((Chg.refl (fun _ => False) wr).drewN d3).trans hc4 (fun _ _ h => h)
        go_wp2_with fail
        refine (bytesEqual_calls h4.cs (hcsl.chg k4 (fun _ _ _ h => h))).mono ?_
        rintro e w5 ⟨rfl, rfl⟩
        by_cases heq : ssave f 16 = l
        · have hb : (ssave f 16 == l) = true := beq_iff_eq.2 heq
          have hg := HGOOD.out.2 ⟨hy, hp, heq⟩
          have HG := Lib.hid hg
          clear heq hg hy hp
          rw [hb]
          go_wp2_with fail
          go_ret2
          exact HLO.out _ (ht.keep k4) ((a.trans k4 (fun _ _ h => h.elim)).new fun k hk h => by have := HD.out; omega) HG.out
        · have hb : (ssave f 16 == l) = false := beq_eq_false_iff_ne.2 heq
          have hg : ¬ Good l := fun hg => heq (HGOOD.out.1 hg).2.2
          have HG := Lib.hid hg
          clear heq hg hy hp
          rw [hb]
          go_wp2_with fail
          go_ret2
          exact Loaded.no ((a.trans k4 (fun _ _ h => h.elim)).new fun k hk h => by have := HD.out; omega) HG.out
      · have hne : (rwhy l s != 0) = true := by
          rw [bne_iff_ne, rwhy]
          intro h0
          split at h0
          · rename_i hy
            split at h0
            · omega
            · exact hok ⟨hy, by assumption⟩
          · exact absurd h0 (by assumption)
        have hg : ¬ Good l := fun hg => hok ⟨(HGOOD.out.1 hg).1, (HGOOD.out.1 hg).2.1⟩
        have HG := Lib.hid hg
        generalize rwhy l s = y at hend hne
        generalize rwhere l s = z at hend
        have HE := Lib.hid hend
        clear hend hg hok
        go_wp2_with fail
        refine HE.out.mono ?_
        rintro e w3 ⟨rfl, d3, rfl⟩
        go_wp2_with fail
        go_ret2
        exact Loaded.no ((a.drewN d3).new fun k hk h => by have := HD.out; omega) HG.out
end Go.Proofs.Ytiibkbkcncmjoaa
