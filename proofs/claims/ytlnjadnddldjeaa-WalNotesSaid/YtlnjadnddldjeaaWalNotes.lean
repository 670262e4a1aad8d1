/-
  WalNotes: the note is the last that was written, behind a Sync also behind any crash: the walk through the law.
-/
import Derived.Test.YtlnjadnddldjeaaKnown21
import Derived.Test.YtlnjadnddldjeaaArgs21
import Derived.Deep.CutBlock
namespace Go.Proofs.Ytlnjadnddldjeaa
open Go.RowKit
set_option linter.unusedVariables false
set_option linter.unusedSimpArgs false

abbrev tOne : ByteArray := ⟨#[111, 110, 101]⟩
abbrev tTwo : ByteArray := ⟨#[116, 119, 111]⟩
/-- what is written behind the first record -/
def NEnt (e : Ent) : Prop := (∃ s : ByteArray, e = .note s ∧ s.size ≤ 100) ∨ e = .put 2 tTwo
/-- such a log's records, and what it holds -/
def NInv (i : Nat) (es : List Ent) (t : LSt) : Prop := (∃ r, es = .put 1 tOne :: r ∧ (∀ e ∈ r, NEnt e) ∧ r.length ≤ 2 * i) ∧ t.f = 1 ∧ (t.rs = [tOne] ∨ t.rs = [tOne, tTwo])
theorem NEnt.size {e : Ent} (h : NEnt e) : e.size ≤ 100 := by
  rcases h with ⟨s, rfl, hs⟩ | rfl
  · exact hs
  · decide
theorem eb_le {es : List Ent} (h : ∀ e ∈ es, e.size ≤ 100) : (eb es).length ≤ es.length * 121 := by
  induction es with
  | nil => rw [eb_nil]; simp
  | cons e es ih =>
    have h1 : eb (e :: es) = eb [e] ++ eb es := eb_append [e] es
    have h2 := ih fun x hx => h x (List.mem_cons_of_mem _ hx)
    have h3 := h e (List.mem_cons_self ..)
    rw [h1, List.length_append, eb_one_length, List.length_cons, Nat.add_mul, Nat.one_mul]
    omega
theorem NInv.room {i : Nat} {es : List Ent} {t : LSt} (h : NInv i es t) : (eb es).length ≤ 121 + 242 * i := by
  obtain ⟨⟨r, rfl, hr, hl⟩, -⟩ := h
  have := eb_le (es := .put 1 tOne :: r) (fun e he => by
    rcases List.mem_cons.1 he with rfl | he
    · decide
    · exact (hr e he).size)
  rw [List.length_cons, Nat.add_mul, Nat.one_mul] at this
  omega
/-- one more note and perhaps one more record -/
theorem NInv.more {i : Nat} {es : List Ent} {t : LSt} {s : ByteArray} (h : NInv i es t) (hs : s.size ≤ 100) : NInv (i + 1) (es ++ [.note s]) { t with note := s } ∧ NInv (i + 1) (es ++ [.note s] ++ [.put 2 tTwo]) (putS { t with note := s } 2 tTwo) := by
  obtain ⟨⟨r, rfl, hr, hl⟩, hf, hrs⟩ := h
  have hr1 : ∀ e ∈ r ++ [Ent.note s], NEnt e := fun e he => by
    rcases List.mem_append.1 he with he | he
    · exact hr e he
    · rw [List.mem_singleton.1 he]; exact .inl ⟨s, rfl, hs⟩
  refine ⟨⟨⟨r ++ [.note s], rfl, hr1, by rw [List.length_append, List.length_singleton]; omega⟩, hf, hrs⟩, ⟨⟨r ++ [.note s] ++ [.put 2 tTwo], rfl, fun e he => ?_, by rw [List.length_append, List.length_append, List.length_singleton, List.length_singleton]; omega⟩, hf, .inr ?_⟩⟩
  · rcases List.mem_append.1 he with he | he
    · exact hr1 e he
    · rw [List.mem_singleton.1 he]; exact .inr rfl
  · show t.rs.take (2 - t.f) ++ [tTwo] = _
    rw [hf]
    rcases hrs with h | h <;> rw [h] <;> rfl
/-- where the loop of WalNotes stands -/
def NotesAt (W : Nat) (w0 : World) (L D i : Nat) (w : World) : Prop := ∃ es safe t, WAt (fun k => W ≤ k) w L D es safe t ∧ NInv i es t ∧ Chg (fun k => W ≤ k) w0 w

set_option maxRecDepth 100000 in
set_option maxHeartbeats 8000000 in
theorem notes_walk {w : World} {A0 : Option Addr} {n0 c0 : Nat} {ss0 : List ByteArray} {keep : Int} (ha0 : StrsArg w A0 n0 c0 ss0) (hkeep : -9223372036854775808 ≤ keep ∧ keep ≤ 9223372036854775807) :
    Calls Try.prog 4 #[.slice A0 n0 c0, .int .i64 keep] w (Known21 w) := by
  obtain ⟨hq0, hc0, hm0, -⟩ := ha0
  have hl0 : ss0.length = n0 := by rw [← sv_length]; exact hq0.1
  have HL0 := Lib.hid hl0
  have HQ0 := Lib.hid hq0
  obtain ⟨W, hW⟩ : ∃ W, w.heap.size = W := ⟨_, rfl⟩
  have HW := Lib.hid hW
  have HF := Lib.hid (fresh_calls (fun k => W ≤ k) w (fun k hk => by omega))
  clear hl0 hq0 hW
  go_enter Try.func4, Try.ntmps4
  go_wp2_with fail
  (with_reducible refine HF.out.mono ?_)
  rintro e w1 ⟨L, D, rfl, h1, k1⟩
  have z1 := k1.size
  have HP := Lib.hid (WPut (s := tOne) (n := 1) (m := 1) h1 (fun k hk => by have := HW.out; omega) rfl (by decide) (by decide) (by decide) (by decide) (by decide) (by rw [eb_nil]; decide))
  clear h1
  go_wp2_with fail
  (with_reducible refine HP.out.mono ?_)
  rintro e w2 ⟨rfl, h2, k2⟩
  have HN : Hid (NotesAt W w L D 0 w2) := Lib.hid ⟨_, _, _, h2, ⟨⟨[], rfl, (fun e he => by cases he), Nat.le_refl _⟩, rfl, .inl rfl⟩, k1.trans k2 (fun _ _ h => h)⟩
  clear h2 k1 k2 z1
  go_upto_block 0 with fail
  go_cut [8] (fun i wx => ∃ k : Nat, i = .int .i64 (k : Int) ∧ Hid (Chg (fun k => W ≤ k) w wx))
  case first =>
    go_wp2_with fail
    go_loopw [8, 6] (fun i x wr => ∃ k L : Nat, i = .int .i64 (k : Int) ∧ x = .pointer (some ⟨L, 0, none⟩) ∧ k ≤ n0 ∧ k ≤ 10 ∧ Hid (NotesAt W w L D k wr)) (fun i _ _ => n0 - (intOf i).toNat)
    case atStart => exact ⟨0, L, rfl, rfl, Nat.zero_le _, Nat.zero_le _, HN⟩
    case round =>
      clear HN
      obtain ⟨k, L1, rfl, rfl, hk1, hk2, HN⟩ := hrel
      obtain ⟨w0, rfl⟩ : ∃ x : World, x = wr := ⟨_, rfl⟩
      obtain ⟨es, safe, t, h0, hI, a0⟩ := HN.out
      by_cases hrun : k < n0 ∧ k < 10
      · obtain ⟨hlt, h10⟩ := hrun
        obtain ⟨s, hs⟩ : ∃ s, ss0[k]? = some s := ⟨_, List.getElem?_eq_getElem (by rw [HL0.out]; exact hlt)⟩
        obtain ⟨b, off, hA, hb, hcell⟩ := HQ0.out.2 (by omega)
        subst hA
        have hbW : ¬ W ≤ b := by have := HW.out; omega
        have hcw := hcell k (.string s) (by simp [sv, hs])
        have hc := a0.cell hcw hbW
        have HC := Lib.hid hcw
        clear hcw
        have hkn : (k : Int) < (n0 : Int) := by omega
        have hroom := hI.room
        have hsf := few21_size s
        obtain ⟨sf, hsfe⟩ : ∃ sf, few21 s = sf := ⟨_, rfl⟩
        have hfew : ∀ w', Calls Try.prog 12 #[.string s] w' fun e w'' => e = .returned (.string sf) ∧ w' = w'' := fun w' => by rw [← hsfe]; exact few_calls w' s
        rw [hsfe] at hsf
        have HFEW := Lib.hid hfew
        have z0 := a0.size
        have hI2 := hI.more hsf
        have HM := Lib.hid (fun (w' : World) (h : WAt (fun k => W ≤ k) w' L1 D es safe t) (hz : W ≤ w'.heap.size) => WMeta (s := sf) h (fun i hi => Nat.le_trans hz hi) (by omega) (by omega))
        have HI2 := Lib.hid hI2
        have HI := Lib.hid hI
        have H0 := Lib.hid h0
        have A0 := Lib.hid a0
        have HSF := Lib.hid hsf
        have HROOM := Lib.hid hroom
        clear hcell hs HN hI hI2 h0 a0 hsfe hfew hsf hroom
        go_wp2_with fail
        refine wp_region_held_drew (S := fun wx => wx.cell? ⟨b, off + k, none⟩ = some (.string s)) (by kernel_rfl) hc (fun hHeld => ?_)
        refine take_at (i := 0) (some 32) (v := ?_) rfl rfl (by kernel_rfl) (by kernel_rfl) (by kernel_rfl) (fun _ _ _ h => h) (Or.inl ⟨by rfl, ?_⟩) (by assumption) ?_
        rotate_left
        · (intro wx hSw; go_simp; try (with_reducible rfl))
        try simp only [Act.put, List.setIfInBounds_toArray, List.set_cons_zero, List.set_cons_succ]
        refine take_at (i := 1) (some 33) (v := ?_) rfl rfl (by kernel_rfl) (by kernel_rfl) (by kernel_rfl) (fun _ _ _ h => h) (Or.inl ⟨by rfl, ?_⟩) (by assumption) ?_
        rotate_left
        · (intro wx hSw; go_simp; try (with_reducible rfl))
        try simp only [Act.put, List.setIfInBounds_toArray, List.set_cons_zero, List.set_cons_succ]
        refine take_at (i := 2) (some 34) (v := ?_) rfl rfl (by kernel_rfl) (by kernel_rfl) (by kernel_rfl) (fun _ _ _ h => h) (Or.inl ⟨by rfl, ?_⟩) (by assumption) ?_
        rotate_left
        · (intro wx hSw; go_simp; try (with_reducible rfl))
        try simp only [Act.put, List.setIfInBounds_toArray, List.set_cons_zero, List.set_cons_succ]
        refine take_at (i := 3) (some 35) (v := ?_) rfl rfl (by kernel_rfl) (by kernel_rfl) (by kernel_rfl) (fun _ _ _ h => h) (Or.inl ⟨by rfl, ?_⟩) (by assumption) ?_
        rotate_left
        · (intro wx hSw; go_simp; try (with_reducible rfl))
        try simp only [Act.put, List.setIfInBounds_toArray, List.set_cons_zero, List.set_cons_succ]
        refine take_at (i := 4) (some 36) (v := ?_) rfl rfl (by kernel_rfl) (by kernel_rfl) (by kernel_rfl) (fun _ _ _ h => h) (Or.inl ⟨by rfl, ?_⟩) (by assumption) ?_
        rotate_left
        · (intro wx hSw; go_simp; try (with_reducible rfl))
        try simp only [Act.put, List.setIfInBounds_toArray, List.set_cons_zero, List.set_cons_succ]
        refine wpAnyH_ready (rs := [5]) (by kernel_rfl) (by simp) ?_
        refine AllReadyH.cons rfl (fun K hK => ?_) AllReadyH.nil
        go_simp
        refine (HFEW.out _).mono ?_
        rintro e w2 ⟨rfl, rfl⟩
        go_wp2_with fail
        refine hK.out _ _ ?_ (fun hHeld => ?_)
        · (first | exact d1 | exact hc)
        clear hK K
        try simp only [Act.put, List.setIfInBounds_toArray, List.set_cons_zero, List.set_cons_succ]
        refine wpAnyH_ready (rs := [6]) (by kernel_rfl) (by simp) ?_
        refine AllReadyH.cons rfl (fun K hK => ?_) AllReadyH.nil
        go_simp
        refine (HM.out _ (H0.out.keep ((Chg.refl (fun _ => False) w0).drew)) (by show W ≤ w0.heap.size; have := HW.out; omega)).mono ?_
        rintro e w3 ⟨rfl, h3, k3⟩
        have a3 := (A0.out.drew).trans k3 (fun _ _ h => h)
        have d1 := k3.cell (p := ⟨b, off + k, none⟩) hc hbW
        have hc3 := d1
        have hz3 := a3.size
        go_wp2_with fail
        refine hK.out _ _ ?_ (fun hHeld => ?_)
        · (first | exact d1 | exact hc)
        clear hK K
        try simp only [Act.put, List.setIfInBounds_toArray, List.set_cons_zero, List.set_cons_succ]
        refine take_at (i := 7) (some 39) (v := ?_) rfl rfl (by kernel_rfl) (by kernel_rfl) (by kernel_rfl) (fun _ _ _ h => h) (Or.inl ⟨by rfl, ?_⟩) (by assumption) ?_
        rotate_left
        · (intro wx hSw; go_simp; try (with_reducible rfl))
        try simp only [Act.put, List.setIfInBounds_toArray, List.set_cons_zero, List.set_cons_succ]
        refine take_at (i := 8) (some 40) (v := ?_) rfl rfl (by kernel_rfl) (by kernel_rfl) (by kernel_rfl) (fun _ _ _ h => h) (Or.inl ⟨by rfl, ?_⟩) (by assumption) ?_
        rotate_left
        · (intro wx hSw; go_simp; try (with_reducible rfl))
        try simp only [Act.put, List.setIfInBounds_toArray, List.set_cons_zero, List.set_cons_succ]
        refine take_at (i := 9) (some 41) (v := ?_) rfl rfl (by kernel_rfl) (by kernel_rfl) (by kernel_rfl) (fun _ _ _ h => h) (Or.inl ⟨by rfl, ?_⟩) (by assumption) ?_
        rotate_left
        · (intro wx hSw; go_simp; try (with_reducible rfl))
        try simp only [Act.put, List.setIfInBounds_toArray, List.set_cons_zero, List.set_cons_succ]
        refine take_at (i := 11) (some 43) (v := ?_) rfl rfl (by kernel_rfl) (by kernel_rfl) (by kernel_rfl) (fun _ _ _ h => h) (Or.inl ⟨by rfl, ?_⟩) (by assumption) ?_
        rotate_left
        · (intro wx hSw; go_simp; try (with_reducible rfl))
        try simp only [Act.put, List.setIfInBounds_toArray, List.set_cons_zero, List.set_cons_succ]
        refine take_at (i := 12) (some 44) (v := ?_) rfl rfl (by kernel_rfl) (by kernel_rfl) (by kernel_rfl) (fun _ _ _ h => h) (Or.inl ⟨by rfl, ?_⟩) (by assumption) ?_
        rotate_left
        · (intro wx hSw; go_simp; try (with_reducible rfl))
        try simp only [Act.put, List.setIfInBounds_toArray, List.set_cons_zero, List.set_cons_succ]
        refine take_at (i := 13) (some 45) (v := ?_) rfl rfl (by kernel_rfl) (by kernel_rfl) (by kernel_rfl) (fun _ _ _ h => h) (Or.inl ⟨by rfl, ?_⟩) (by assumption) ?_
        rotate_left
        · (intro wx hSw; go_simp; try (with_reducible rfl))
        try simp only [Act.put, List.setIfInBounds_toArray, List.set_cons_zero, List.set_cons_succ]
        refine take_at (i := 14) (some 46) (v := ?_) rfl rfl (by kernel_rfl) (by kernel_rfl) (by kernel_rfl) (fun _ _ _ h => h) (Or.inl ⟨by rfl, ?_⟩) (by assumption) ?_
        rotate_left
        · (intro wx hSw; go_simp; try (with_reducible rfl))
        try simp only [Act.put, List.setIfInBounds_toArray, List.set_cons_zero, List.set_cons_succ]
        refine wpAnyH_ready (rs := [10]) (by kernel_rfl) (by simp) ?_
        refine AllReadyH.cons rfl (fun K hK => ?_) AllReadyH.nil
        go_simp
        refine (WNote h3).mono ?_
        rintro e w4 ⟨rfl, rfl⟩
        go_wp2_with fail
        refine hK.out _ _ ?_ (fun hHeld => ?_)
        · (first | exact d1 | exact hc)
        clear hK K
        try simp only [Act.put, List.setIfInBounds_toArray, List.set_cons_zero, List.set_cons_succ]
        refine wpAnyH_ready (rs := [15]) (by kernel_rfl) (by simp) ?_
        refine AllReadyH.cons rfl (fun K hK => ?_) AllReadyH.nil
        go_simp
        refine (HFEW.out _).mono ?_
        rintro e w5 ⟨rfl, rfl⟩
        go_wp2_with fail
        refine hK.out _ _ ?_ (fun hHeld => ?_)
        · (first | exact d1 | exact hc)
        clear hK K
        try simp only [Act.put, List.setIfInBounds_toArray, List.set_cons_zero, List.set_cons_succ]
        refine take_at (i := 16) (some 48) (v := ?_) rfl rfl (by kernel_rfl) (by kernel_rfl) (by kernel_rfl) (fun _ _ _ h => h) (Or.inl ⟨by rfl, ?_⟩) (by assumption) ?_
        rotate_left
        · (intro wx hSw; go_simp; try (with_reducible rfl))
        try simp only [Act.put, List.setIfInBounds_toArray, List.set_cons_zero, List.set_cons_succ]
        refine take_at (i := 17) (some 49) (v := ?_) rfl rfl (by kernel_rfl) (by kernel_rfl) (by kernel_rfl) (fun _ _ _ h => h) (Or.inl ⟨by rfl, ?_⟩) (by assumption) ?_
        rotate_left
        · (intro wx hSw; go_simp; try (with_reducible rfl))
        try simp only [Act.put, List.setIfInBounds_toArray, List.set_cons_zero, List.set_cons_succ]
        refine wpAnyH_done (by kernel_rfl) ?_ _
        have c5 := hc3
        clear hc d1
        go_wp2_with fail
        have HS := Lib.hid (WSync h3)
        clear h3
        (with_reducible refine HS.out.mono ?_)
        rintro e w4 ⟨rfl, h4, k4⟩
        have z4 := k4.size
        have a4 := a3.trans k4 (fun _ _ h => h)
        have hI21 := HI2.out.1
        have hr1 := hI21.room
        have hp2 : 2 ≤ 1 + t.rs.length := by
          rcases HI.out.2.2 with h | h <;> rw [h] <;> decide
        have hp3 : t.rs.length ≤ 2 := by
          rcases HI.out.2.2 with h | h <;> rw [h] <;> decide
        have hfx : t.f = 1 := HI.out.2.1
        have HP2 := Lib.hid (WPut (s := tTwo) (n := 2) (m := 2) h4 (fun k hk => by have := HW.out; omega) rfl (by show t.f ≤ 2; omega) (by show 2 ≤ t.f + t.rs.length; omega) (by decide) (by decide) (by show t.rs.length < _; omega) (by show (eb (es ++ [Ent.note sf])).length + 24 ≤ _; omega))
        have HLEN4 := Lib.hid h4.safeLe
        clear h4 k4 a3 HS hI21 hr1 hp2 hp3 hfx
        go_wp2_with fail
        (with_reducible refine HP2.out.mono ?_)
        rintro e w5 ⟨rfl, h5, k5⟩
        have z5 := k5.size
        have a5 := a4.trans k5 (fun _ _ h => h)
        have hs5 := h5.sizes
        have hr5 := h5.rdos
        have hle5 := h5.safeLe
        have HCR := Lib.hid (WCrash h5 keep)
        have HS5 := Lib.hid hs5
        have HR5 := Lib.hid hr5
        have HLE5 := Lib.hid hle5
        clear h5 k5 a4 HP2 hs5 hr5 hle5
        go_wp2_with fail
        (with_reducible refine HCR.out.mono ?_)
        rintro e w6 ⟨rfl, h6, k6⟩
        have z6 := k6.size
        have a6 := a5.trans k6 (fun _ _ h => h)
        have hkl := kept_le (keep := keep) HLE5.out.1
        have htk : (es ++ [Ent.note sf] ++ [Ent.put 2 tTwo]).take (es ++ [Ent.note sf]).length = es ++ [Ent.note sf] := List.take_left' rfl
        obtain ⟨j, t2, hj1, hj2, hj3, hj4, HO⟩ := WCrashed (i := (es ++ [Ent.note sf]).length) h6 (fun k hk => by have := HW.out; omega) HS5.out HR5.out (by simp) (by rw [htk]; exact hkl.1) hkl.2
        have hfin : NInv (k + 1) ((es ++ [Ent.note sf] ++ [Ent.put 2 tTwo]).take j) t2 ∧ t2.note = sf := by
          have hjj : j = (es ++ [Ent.note sf]).length ∨ j = (es ++ [Ent.note sf] ++ [Ent.put 2 tTwo]).length := by
            have e1 : (es ++ [Ent.note sf] ++ [Ent.put 2 tTwo]).length = (es ++ [Ent.note sf]).length + 1 := by rw [List.length_append]; rfl
            omega
          rcases hjj with rfl | rfl
          · have e : rdos init21 ((es ++ [Ent.note sf] ++ [Ent.put 2 tTwo]).take (es ++ [Ent.note sf]).length) = some { t with note := sf } := by
              rw [htk]; exact rdos_snoc H0.out.rdos rfl
            rw [hj4] at e
            injection e with e
            subst e
            rw [htk]
            exact ⟨HI2.out.1, rfl⟩
          · rw [List.take_length] at hj4 ⊢
            rw [HR5.out] at hj4
            injection hj4 with e
            subst e
            exact ⟨HI2.out.2, rfl⟩
        have HFIN := Lib.hid hfin
        have HOO := Lib.hid HO
        clear h6 k6 a5 hkl htk hj1 hj2 hj3 hj4 HO hfin HCR
        go_wp2_with fail
        (with_reducible refine HOO.out.mono ?_)
        rintro e w7 ⟨L2, rfl, h7, hL2, k7⟩
        have z7 := k7.size
        have a7 := a6.trans k7 (fun _ _ h => h)
        have hg : ∃ r, t2.rs = tOne :: r := by
          rcases HFIN.out.1.2.2 with h | h <;> rw [h] <;> exact ⟨_, rfl⟩
        have hf2 := HFIN.out.1.2.1
        have HG := Lib.hid (WGet_in (m := 1) (k := 0) (s := tOne) h7 (by rw [hf2]; rfl) (by obtain ⟨r, hr⟩ := hg; rw [hr]; rfl))
        clear hg hf2 k7 a6 HOO
        go_wp2_with fail
        (with_reducible refine HG.out.mono ?_)
        rintro e w8 ⟨rfl, q8, rfl⟩
        have h8 := h7.keep ((Chg.refl (fun _ => False) w7).drewN q8)
        have a8 := a7.drewN q8
        obtain ⟨w8, hw8⟩ : ∃ w8, w7.drewN q8 = w8 := ⟨_, rfl⟩
        rw [hw8] at h8 a8 ⊢
        have hc8 := a8.cell HC.out hbW
        have hnote : ∀ (w' : World) (es' : List Ent) (safe' : Nat), WAt (fun k => W ≤ k) w' L2 D es' safe' t2 → Calls Try.prog 25 #[.pointer (some ⟨L2, 0, none⟩)] w' fun e w'' => e = .returned (.string sf) ∧ w' = w'' := fun w' _ _ h => by
          have := WNote h
          rwa [HFIN.out.2] at this
        have HNOTE := Lib.hid hnote
        have hnx : ∀ (w' : World) (es' : List Ent) (safe' : Nat), WAt (fun k => W ≤ k) w' L2 D es' safe' t2 → Calls Try.prog 15 #[.pointer (some ⟨L2, 0, none⟩)] w' (Told (.int .i64 (((t2.f + t2.rs.length : Nat) : Int))) w') := fun w' _ _ h => WNext h
        obtain ⟨N, hNN⟩ : ∃ N, t2.f + t2.rs.length = N := ⟨_, rfl⟩
        rw [hNN] at hnx
        have hN3 : ¬ (3 : Int) < (N : Int) := by
          rw [← hNN, HFIN.out.1.2.1]
          rcases HFIN.out.1.2.2 with h | h <;> rw [h] <;> decide
        have HNX := Lib.hid hnx
        have H8 := Lib.hid h8
        have hfew := HFEW.out
        clear hw8 h7 a7 HG hnote hnx hNN h8
        go_wp2_with fail
        refine wp_region_held_drew (S := fun wx => wx.cell? ⟨b, off + k, none⟩ = some (.string s)) (by kernel_rfl) hc8 (fun hHeld => ?_)
        refine take_at (i := 0) (some 74) (v := ?_) rfl rfl (by kernel_rfl) (by kernel_rfl) (by kernel_rfl) (fun _ _ _ h => h) (Or.inl ⟨by rfl, ?_⟩) (by assumption) ?_
        rotate_left
        · (intro wx hSw; go_simp; try (with_reducible rfl))
        try simp only [Act.put, List.setIfInBounds_toArray, List.set_cons_zero, List.set_cons_succ]
        refine take_at (i := 2) (some 76) (v := ?_) rfl rfl (by kernel_rfl) (by kernel_rfl) (by kernel_rfl) (fun _ _ _ h => h) (Or.inl ⟨by rfl, ?_⟩) (by assumption) ?_
        rotate_left
        · (intro wx hSw; go_simp; try (with_reducible rfl))
        try simp only [Act.put, List.setIfInBounds_toArray, List.set_cons_zero, List.set_cons_succ]
        refine take_at (i := 3) (some 77) (v := ?_) rfl rfl (by kernel_rfl) (by kernel_rfl) (by kernel_rfl) (fun _ _ _ h => h) (Or.inl ⟨by rfl, ?_⟩) (by assumption) ?_
        rotate_left
        · (intro wx hSw; go_simp; try (with_reducible rfl))
        try simp only [Act.put, List.setIfInBounds_toArray, List.set_cons_zero, List.set_cons_succ]
        refine take_at (i := 4) (some 78) (v := ?_) rfl rfl (by kernel_rfl) (by kernel_rfl) (by kernel_rfl) (fun _ _ _ h => h) (Or.inl ⟨by rfl, ?_⟩) (by assumption) ?_
        rotate_left
        · (intro wx hSw; go_simp; try (with_reducible rfl))
        try simp only [Act.put, List.setIfInBounds_toArray, List.set_cons_zero, List.set_cons_succ]
        refine take_at (i := 5) (some 79) (v := ?_) rfl rfl (by kernel_rfl) (by kernel_rfl) (by kernel_rfl) (fun _ _ _ h => h) (Or.inl ⟨by rfl, ?_⟩) (by assumption) ?_
        rotate_left
        · (intro wx hSw; go_simp; try (with_reducible rfl))
        try simp only [Act.put, List.setIfInBounds_toArray, List.set_cons_zero, List.set_cons_succ]
        refine wpAnyH_ready (rs := [1]) (by kernel_rfl) (by simp) ?_
        refine AllReadyH.cons rfl (fun K hK => ?_) AllReadyH.nil
        go_simp
        refine (HNOTE.out _ _ _ (H8.out.keep ((Chg.refl (fun _ => False) w8).drew))).mono ?_
        rintro e w9 ⟨rfl, rfl⟩
        go_wp2_with fail
        refine hK.out _ _ ?_ (fun hHeld => ?_)
        · (exact hc8)
        clear hK K
        try simp only [Act.put, List.setIfInBounds_toArray, List.set_cons_zero, List.set_cons_succ]
        refine wpAnyH_ready (rs := [6]) (by kernel_rfl) (by simp) ?_
        refine AllReadyH.cons rfl (fun K hK => ?_) AllReadyH.nil
        go_simp
        refine (HFEW.out _).mono ?_
        rintro e w9 ⟨rfl, rfl⟩
        go_wp2_with fail
        refine hK.out _ _ ?_ (fun hHeld => ?_)
        · (exact hc8)
        clear hK K
        try simp only [Act.put, List.setIfInBounds_toArray, List.set_cons_zero, List.set_cons_succ]
        refine take_at (i := 7) (some 81) (v := ?_) rfl rfl (by kernel_rfl) (by kernel_rfl) (by kernel_rfl) (fun _ _ _ h => h) (Or.inl ⟨by rfl, ?_⟩) (by assumption) ?_
        rotate_left
        · (intro wx hSw; go_simp; try (with_reducible rfl))
        try simp only [Act.put, List.setIfInBounds_toArray, List.set_cons_zero, List.set_cons_succ]
        refine take_at (i := 8) (some 82) (v := ?_) rfl rfl (by kernel_rfl) (by kernel_rfl) (by kernel_rfl) (fun _ _ _ h => h) (Or.inl ⟨by rfl, ?_⟩) (by assumption) ?_
        rotate_left
        · (intro wx hSw; go_simp; try (with_reducible rfl))
        try simp only [Act.put, List.setIfInBounds_toArray, List.set_cons_zero, List.set_cons_succ]
        refine take_at (i := 9) (some 83) (v := ?_) rfl rfl (by kernel_rfl) (by kernel_rfl) (by kernel_rfl) (fun _ _ _ h => h) (Or.inl ⟨by rfl, ?_⟩) (by assumption) ?_
        rotate_left
        · (intro wx hSw; go_simp; try (with_reducible rfl))
        try simp only [Act.put, List.setIfInBounds_toArray, List.set_cons_zero, List.set_cons_succ]
        refine take_at (i := 10) (some 84) (v := ?_) rfl rfl (by kernel_rfl) (by kernel_rfl) (by kernel_rfl) (fun _ _ _ h => h) (Or.inl ⟨by rfl, ?_⟩) (by assumption) ?_
        rotate_left
        · (intro wx hSw; go_simp; try (with_reducible rfl))
        try simp only [Act.put, List.setIfInBounds_toArray, List.set_cons_zero, List.set_cons_succ]
        refine take_at (i := 11) (some 85) (v := ?_) rfl rfl (by kernel_rfl) (by kernel_rfl) (by kernel_rfl) (fun _ _ _ h => h) (Or.inl ⟨by rfl, ?_⟩) (by assumption) ?_
        rotate_left
        · (intro wx hSw; go_simp; try (with_reducible rfl))
        try simp only [Act.put, List.setIfInBounds_toArray, List.set_cons_zero, List.set_cons_succ]
        refine take_at (i := 12) (some 86) (v := ?_) rfl rfl (by kernel_rfl) (by kernel_rfl) (by kernel_rfl) (fun _ _ _ h => h) (Or.inl ⟨by rfl, ?_⟩) (by assumption) ?_
        rotate_left
        · (intro wx hSw; go_simp; try (with_reducible rfl))
        try simp only [Act.put, List.setIfInBounds_toArray, List.set_cons_zero, List.set_cons_succ]
        refine take_at (i := 13) (some 87) (v := ?_) rfl rfl (by kernel_rfl) (by kernel_rfl) (by kernel_rfl) (fun _ _ _ h => h) (Or.inl ⟨by rfl, ?_⟩) (by assumption) ?_
        rotate_left
        · (intro wx hSw; go_simp; try (with_reducible rfl))
        try simp only [Act.put, List.setIfInBounds_toArray, List.set_cons_zero, List.set_cons_succ]
        refine take_at (i := 14) (some 88) (v := ?_) rfl rfl (by kernel_rfl) (by kernel_rfl) (by kernel_rfl) (fun _ _ _ h => h) (Or.inl ⟨by rfl, ?_⟩) (by assumption) ?_
        rotate_left
        · (intro wx hSw; go_simp; try (with_reducible rfl))
        try simp only [Act.put, List.setIfInBounds_toArray, List.set_cons_zero, List.set_cons_succ]
        refine take_at (i := 15) (some 89) (v := ?_) rfl rfl (by kernel_rfl) (by kernel_rfl) (by kernel_rfl) (fun _ _ _ h => h) (Or.inl ⟨by rfl, ?_⟩) (by assumption) ?_
        rotate_left
        · (intro wx hSw; go_simp; try (with_reducible rfl))
        try simp only [Act.put, List.setIfInBounds_toArray, List.set_cons_zero, List.set_cons_succ]
        refine take_at (i := 16) (some 90) (v := ?_) rfl rfl (by kernel_rfl) (by kernel_rfl) (by kernel_rfl) (fun _ _ _ h => h) (Or.inl ⟨by rfl, ?_⟩) (by assumption) ?_
        rotate_left
        · (intro wx hSw; go_simp; try (with_reducible rfl))
        try simp only [Act.put, List.setIfInBounds_toArray, List.set_cons_zero, List.set_cons_succ]
        refine take_at (i := 17) (some 91) (v := ?_) rfl rfl (by kernel_rfl) (by kernel_rfl) (by kernel_rfl) (fun _ _ _ h => h) (Or.inl ⟨by rfl, ?_⟩) (by assumption) ?_
        rotate_left
        · (intro wx hSw; go_simp; try (with_reducible rfl))
        try simp only [Act.put, List.setIfInBounds_toArray, List.set_cons_zero, List.set_cons_succ]
        refine wpAnyH_ready (rs := [18]) (by kernel_rfl) (by simp) ?_
        refine AllReadyH.cons rfl (fun K hK => ?_) AllReadyH.nil
        go_simp
        refine (HNX.out _ _ _ (H8.out.keep ((Chg.refl (fun _ => False) w8).drew))).mono ?_
        rintro e w9 ⟨rfl, q9, rfl⟩
        have h9 := H8.out.keep (((Chg.refl (fun _ => False) w8).drew).drewN q9)
        have a9 := (a8.drew).drewN q9
        have d8 := hc8
        go_wp2_with fail
        refine hK.out _ _ ?_ (fun hHeld => ?_)
        · (exact hc8)
        clear hK K
        try simp only [Act.put, List.setIfInBounds_toArray, List.set_cons_zero, List.set_cons_succ]
        refine take_at (i := 19) (some 93) (v := ?_) rfl rfl (by kernel_rfl) (by kernel_rfl) (by kernel_rfl) (fun _ _ _ h => h) (Or.inl ⟨by rfl, ?_⟩) (by assumption) ?_
        rotate_left
        · (intro wx hSw; go_simp; try (with_reducible rfl))
        try simp only [Act.put, List.setIfInBounds_toArray, List.set_cons_zero, List.set_cons_succ]
        refine take_at (i := 20) (some 94) (v := ?_) rfl rfl (by kernel_rfl) (by kernel_rfl) (by kernel_rfl) (fun _ _ _ h => h) (Or.inl ⟨by rfl, ?_⟩) (by assumption) ?_
        rotate_left
        · (intro wx hSw; go_simp; try (with_reducible rfl))
        try simp only [Act.put, List.setIfInBounds_toArray, List.set_cons_zero, List.set_cons_succ]
        refine wpAnyH_done (by kernel_rfl) ?_ _
        go_wp2_with fail
        go_roundw
        case rel => exact ⟨k + 1, L2, by go_num, rfl, by omega, by omega, Lib.hid ⟨_, _, _, H8.out.keep ((Chg.refl (fun _ => False) w8).drewN _), HFIN.out.1, a8.drewN _⟩⟩
        case measure => simp [intOf]; omega
      · have hcase : ¬ k < n0 ∨ (k < n0 ∧ ¬ k < 10) := by omega
        clear hrun h0 hI
        have HA0 := Lib.hid a0
        clear a0
        rcases hcase with hIn | ⟨hIn, hI8⟩
        all_goals
          go_wp2_with fail
          go_meet
          exact ⟨k, rfl, HA0⟩
  case rest =>
    obtain ⟨k0, rfl, HT⟩ := hcut
    obtain ⟨w2, rfl⟩ : ∃ x : World, x = wc := ⟨_, rfl⟩
    go_wp2_with fail
    refine (known_calls _).mono ?_
    rintro e w3 ⟨rfl, k3⟩
    go_wp2_with fail
    go_ret
    exact ⟨rfl, (HT.out.trans k3 (fun _ _ h => h.elim)).new fun k hk h => by have := HW.out; omega⟩
end Go.Proofs.Ytlnjadnddldjeaa
