/-
  Contracts of the document's chapter 2 (confluenceref2): the sum, a seal, what is opened: the same as package sum's.
-/
import Derived.Test.YtnehkheojgmocaaSum
namespace Go.Proofs.Ytnehkheojgmocaa
open Go.RowKit
set_option linter.unusedVariables false
set_option linter.unusedSimpArgs false

set_option maxHeartbeats 1000000 in
theorem RefCrc_calls {w : World} {S : Nat → Prop} {A : Option Addr} {n c : Nat} {l : List UInt8} (h : Cs w S A n (bv l)) (hm : n ≤ 9223372036854775807) :
    Calls Try.prog 38 #[.slice A n c] w fun e w' => e = .returned (.int .u32 (crc l : Int)) ∧ w = w' := by
  have hl : l.length = n := by rw [← bv_length]; exact h.1
  have HL := Lib.hid hl
  clear hl
  go_enter Try.func38, Try.ntmps38
  go_wp2_with fail
  go_loop [3, 4] (fun s i => ∃ k : Nat, k ≤ n ∧ i = .int .i64 k ∧ s = .int .u32 (crun 4294967295 (l.take k) : Int)) (fun _ i => n - (intOf i).toNat)
  case atStart => exact ⟨0, Nat.zero_le _, rfl, rfl⟩
  case round =>
    obtain ⟨k, hk, rfl, rfl⟩ := hrel
    by_cases hlt : k < n
    · have k1 : k < l.length := by have := HL.out; omega
      obtain ⟨b, off, rfl, _, hc⟩ := h.2 (by omega)
      have c1 := hc k _ (bv_get k1)
      have hts : crun 4294967295 (l.take (k + 1)) = cbyte (crun 4294967295 (l.take k) ^^^ l[k].toNat) := by
        rw [List.take_succ_eq_append_getElem k1, crun_snoc]
      have hcl : crun 4294967295 (l.take k) < 4294967296 := crun_lt (by decide)
      have hxl : crun 4294967295 (l.take k) ^^^ l[k].toNat < 4294967296 := xor_byte_lt hcl _
      generalize l[k] = x at c1 hts hxl
      have hx256 : x.toNat < 256 := x.toNat_lt
      generalize crun 4294967295 (l.take k) = C at hts hcl hxl ⊢
      have hw : IntKind.u32.wrap (x.toNat : Int) = (x.toNat : Int) := IntWalk.u32_in _ (by omega)
      have hxor : bits .xor .u32 (C : Int) (x.toNat : Int) = ((C ^^^ x.toNat : Nat) : Int) := u32_xor_nat _ _ hcl (by omega)
      have HC := Lib.hid hc
      have HT := Lib.hid hts
      clear hc hts
      go_wp2_with fail
      clear hw hxor
      generalize C ^^^ x.toNat = C0 at HT hxl ⊢
      go_loop [3, 5] (fun s i => ∃ j : Nat, j ≤ 8 ∧ i = .int .i64 j ∧ s = .int .u32 (csteps j C0 : Int)) (fun _ i => 8 - (intOf i).toNat)
      case atStart => exact ⟨0, Nat.zero_le _, rfl, rfl⟩
      case round =>
        obtain ⟨j, hj, rfl, rfl⟩ := hrel
        by_cases hj8 : j < 8
        · have hV := csteps_lt hxl j
          have hs : csteps (j + 1) C0 = cstep (csteps j C0) := rfl
          generalize csteps j C0 = V at hV hs ⊢
          have hand : bits .and .u32 (V : Int) 1 = ((V % 2 : Nat) : Int) := by
            rw [show (1 : Int) = ((1 : Nat) : Int) from rfl, u32_and_nat _ _ hV (by omega), Nat.and_one_is_mod]
          have hxp : bits .xor .u32 ((V : Int) / 2) 3988292384 = ((V / 2 ^^^ poly : Nat) : Int) := by
            have := u32_xor_nat (V / 2) 3988292384 (by omega) (by omega)
            rwa [show ((V / 2 : Nat) : Int) = (V : Int) / 2 by omega] at this
          by_cases ho : V % 2 = 1
          · have hs1 : cstep V = V / 2 ^^^ poly := by rw [cstep, if_pos ho]
            rw [ho] at hand
            rw [hs1] at hs
            generalize V / 2 ^^^ poly = V1 at hs hxp
            have HS := Lib.hid hs
            clear hs hs1 ho
            go_wp2_with fail
            go_round
            case rel => exact ⟨j + 1, by omega, by go_num, by rw [HS.out]⟩
            case measure => simp [intOf]; omega
          · have ho0 : V % 2 = 0 := by omega
            have hs1 : cstep V = V / 2 := by rw [cstep, if_neg ho]
            rw [ho0] at hand
            rw [hs1] at hs
            have HS := Lib.hid hs
            clear hs hs1 ho ho0
            go_wp2_with fail
            go_round
            case rel => exact ⟨j + 1, by omega, by go_num, by rw [HS.out]; congr 1⟩
            case measure => simp [intOf]; omega
        · have hj8' : j = 8 := by omega
          subst hj8'
          rw [csteps8]
          go_wp2_with fail
          go_round
          case rel => exact ⟨k + 1, by omega, by go_num, by rw [HT.out]⟩
          case measure => simp [intOf]; omega
    · have hkn : k = n := by omega
      have hll : l.take k = l := List.take_of_length_le (by have := HL.out; omega)
      rw [hll]
      have hcl : crun 4294967295 l < 4294967296 := crun_lt (by decide)
      have hfin : bits .xor .u32 (crun 4294967295 l : Int) 4294967295 = (crc l : Int) := u32_xor_nat (crun 4294967295 l) 4294967295 hcl (by omega)
      go_wp2_with fail
      go_ret
      exact ⟨rfl, rfl⟩

/-- a seal in memory of its own -/
theorem RefSeal_calls {w : World} {S : Nat → Prop} {A : Option Addr} {n c : Nat} {l : List UInt8} (h : Cs w S A n (bv l)) (hm : n ≤ 100000000) :
    Calls Try.prog 39 #[.slice A n c] w (Cloned w (n + 4) (sealed l)) := by
  have hl : l.length = n := by rw [← bv_length]; exact h.1
  have HL := Lib.hid hl
  clear hl
  go_enter Try.func39, Try.ntmps39
  go_wp2_with fail
  refine (RefCrc_calls h (by omega)).mono ?_
  rintro e w1 ⟨rfl, rfl⟩
  have hown := Own.new w (bv (le4 (crc l))) 5 (by simp [bv_length, le4_length])
  rw [bv_length, le4_length] at hown
  have hcs : Cs (w.alloc (.cells (bv (le4 (crc l))).toArray 5)) S A n (bv l) := h.chg ((Chg.refl (fun _ => False) w).alloc _) (fun _ _ _ hf => hf)
  rw [bv_le4] at hown hcs
  go_wp2_with (at_builtin; refine wpList_append rfl _ _ 26 26 rfl 5 1 bytesApp _ _ 4 4 _ (bv l) _ rfl rfl hown (Src.slice hcs) (bv_one l) (n + 4) ?_ (by omega) (by omega) ?_)
  · rw [bv_length, HL.out]; omega
  · intro own' A' cap' w' hown' hor hchg
    go_wp2_with fail
    go_ret
    refine ⟨own', A', cap', rfl, ?_, fun g hg => ?_, (((Chg.refl (fun _ => False) w).alloc _).trans hchg (fun i hi hf => by have h2 : w.heap.size = i := hf; omega))⟩
    · rw [sealed, bv_append, bv_le4]; exact hown'
    · rcases hor with h0 | h0
      · rw [h0] at hg; simp at hg; omega
      · rw [h0] at hg; simp at hg; omega

set_option maxRecDepth 100000 in
set_option maxHeartbeats 2000000 in
theorem RefOpen_calls {w : World} {S : Nat → Prop} {A : Option Addr} {n c : Nat} {l : List UInt8} (h : Cs w S A n (bv l)) (hm : n ≤ 100000000) (hnc : n ≤ c) (hcm : c ≤ 9223372036854775807) :
    Calls Try.prog 37 #[.slice A n c] w (Opened w n l) := by
  have hl : l.length = n := by rw [← bv_length]; exact h.1
  have HL := Lib.hid hl
  by_cases h4 : n < 4
  · have ho : opens l = false := by rw [opens, decide_eq_false (by omega)]; rfl
    have HO := Lib.hid ho
    clear hl ho
    go_enter Try.func37, Try.ntmps37
    go_wp2_with fail
    go_ret2
    exact .inr ⟨HO.out, rfl, Chg.refl _ w⟩
  · obtain ⟨b, off, rfl, hb, hcell⟩ := h.2 (by omega)
    have hd4 := h.drop (k := 4) (by omega) hnc
    rw [← bv_drop] at hd4
    simp only [Option.map_some, add_lit'] at hd4
    obtain ⟨A4, hA4⟩ : ∃ A4, (if c = 4 then some ⟨b, off, none⟩ else some ⟨b, off + 4, none⟩ : Option Addr) = A4 := ⟨_, rfl⟩
    rw [hA4] at hd4
    clear hl hcell
    have hdl : (l.drop 4).length = n - 4 := by rw [List.length_drop, HL.out]
    have hdc : Cs (w.alloc (.cells #[] 5)) S A4 (n - 4) (bv (l.drop 4)) := hd4.chg ((Chg.refl (fun _ => False) w).alloc _) (fun _ _ _ hf => hf)
    have HDL := Lib.hid hdl
    clear hdl
    have hn4 : (4 : Int) ≤ (n : Int) := by omega
    have hc4 : (4 : Int) ≤ (c : Int) := by omega
    go_enter Try.func37, Try.ntmps37
    go_wp2_with (at_builtin; refine wpList_append rfl _ _ 26 26 rfl 5 1 bytesApp none _ 0 0 [] (bv (l.drop 4)) _ rfl rfl (Own.nil_ _ _ _) (Src.slice hdc) (bv_one _) (n - 4) ?_ (by omega) (by omega) ?_)
    · rw [bv_length, HDL.out]; omega
    · intro o1 A1 c1 w1 hO hor hc1
      have hc01 : Chg (fun _ => False) w w1 := ((Chg.refl (fun _ => False) w).alloc _).trans hc1 (fun i hi hf => by cases hf)
      have hn1 : ∀ g, o1 = some g → w.heap.size ≤ g := fun g hg => by
        rcases hor with h0 | h0
        · rw [h0] at hg; cases hg
        · rw [h0] at hg; simp at hg; omega
      go_wp2_with fail
      have hdr : Chg (fun _ => False) w1 w1.drew := (Chg.refl _ _).drew
      have hn4n : 4 ≤ n := by omega
      have rb : ∀ wx, Chg (fun _ => False) w1 wx → (convert 26 9 (.slice (some ⟨b, off, none⟩) n c)).run Try.prog wx = .ok (.string (str l)) wx := fun wx hx =>
        run_string (P := Try.prog) Try.underlying26 Try.underlying5 Try.underlying9 (h.chg (hc01.trans hx (fun _ _ h => h)) (fun _ _ _ hf => hf))
      have hsl := str_toList
      obtain ⟨Z, hZ⟩ : ∃ Z, sealed (l.drop 4) = Z := ⟨_, rfl⟩
      have HZ := Lib.hid hZ
      clear hd4 hdc
      cases ho : opens l with
      | true =>
        have hZl : Z = l := hZ ▸ ((opens_iff l).1 ho).2
        subst hZl
        have HO := Lib.hid ho
        clear ho hZ
        refine wp_region_held_drew (S := fun wx => Chg (fun _ => False) w1 wx) (by kernel_rfl) hdr (fun hHeld => ?_)
        refine take_at (i := 0) (some 12) (v := ?_) rfl rfl (by kernel_rfl) (by kernel_rfl) (by kernel_rfl) (fun _ _ _ h => h) (Or.inl ⟨by rfl, ?_⟩) (by assumption) ?_
        rotate_left
        · (intro wx hSw; go_simp; try (with_reducible rfl))
        try simp only [Act.put, List.setIfInBounds_toArray, List.set_cons_zero, List.set_cons_succ]
        refine take_at (i := 3) (some 15) (v := ?_) rfl rfl (by kernel_rfl) (by kernel_rfl) (by kernel_rfl) (fun _ _ _ h => h) (Or.inl ⟨by rfl, ?_⟩) (by assumption) ?_
        rotate_left
        · (intro wx hSw; go_simp; try (with_reducible rfl))
        try simp only [Act.put, List.setIfInBounds_toArray, List.set_cons_zero, List.set_cons_succ]
        refine take_at (i := 4) (some 16) (v := ?_) rfl rfl (by kernel_rfl) (by kernel_rfl) (by kernel_rfl) (fun _ _ _ h => h) (Or.inl ⟨by rfl, ?_⟩) (by assumption) ?_
        rotate_left
        · (intro wx hSw; go_simp; try (with_reducible rfl))
        try simp only [Act.put, List.setIfInBounds_toArray, List.set_cons_zero, List.set_cons_succ]
        refine wpAnyH_ready (rs := [1]) (by kernel_rfl) (by simp) ?_
        refine AllReadyH.cons rfl (fun K hK => ?_) AllReadyH.nil
        go_simp
        refine (RefSeal_calls (hO.cs.drew) (by omega)).mono ?_
        rintro e w5 ⟨o5, A6, c5, rfl, h5, hn5, hc5⟩
        have hcl5 := hc5
        rw [HZ.out, Nat.sub_add_cancel hn4n] at h5
        have r13 := run_string (P := Try.prog) Try.underlying26 Try.underlying5 Try.underlying9 (c := c5) h5.cs
        have hk5 := hdr.trans hc5 (fun _ _ h => h)
        go_wp2_with fail
        refine hK.out _ _ ?_ (fun hHeld => ?_)
        · (assumption)
        clear hK K
        try simp only [Act.put, List.setIfInBounds_toArray, List.set_cons_zero, List.set_cons_succ]
        refine wpAnyH_ready (rs := [2]) (by kernel_rfl) (by simp) ?_
        refine AllReadyH.cons rfl (fun K hK => ?_) AllReadyH.nil
        go_simp
        refine hK.out _ _ ?_ (fun hHeld => ?_)
        · (assumption)
        clear hK K
        try simp only [Act.put, List.setIfInBounds_toArray, List.set_cons_zero, List.set_cons_succ]
        refine take_at (i := 5) (some 17) (v := ?_) rfl rfl (by kernel_rfl) (by kernel_rfl) (by kernel_rfl) (fun _ _ _ h => h) (Or.inl ⟨by rfl, ?_⟩) (by assumption) ?_
        rotate_left
        · (intro wx hSw; go_simp; try (with_reducible rfl))
        try simp only [Act.put, List.setIfInBounds_toArray, List.set_cons_zero, List.set_cons_succ]
        refine wpAnyH_done (by kernel_rfl) ?_ _
        go_wp2_with fail
        go_ret2
        exact .inl ⟨HO.out, o1, A1, c1, rfl, hO.chg hk5 (fun _ _ hf => hf), hn1, hc01.trans hk5 (fun _ _ h => h)⟩
      | false =>
        have hZl : Z ≠ l := fun h => by
          have h1 := (opens_iff l).2 ⟨by rw [HL.out]; exact hn4n, by rw [hZ]; exact h⟩
          rw [ho] at h1; cases h1
        have hn2 : (Z == l) = false := by simpa using hZl
        have HO := Lib.hid ho
        clear ho hZ
        refine wp_region_held_drew (S := fun wx => Chg (fun _ => False) w1 wx) (by kernel_rfl) hdr (fun hHeld => ?_)
        refine take_at (i := 0) (some 12) (v := ?_) rfl rfl (by kernel_rfl) (by kernel_rfl) (by kernel_rfl) (fun _ _ _ h => h) (Or.inl ⟨by rfl, ?_⟩) (by assumption) ?_
        rotate_left
        · (intro wx hSw; go_simp; try (with_reducible rfl))
        try simp only [Act.put, List.setIfInBounds_toArray, List.set_cons_zero, List.set_cons_succ]
        refine take_at (i := 3) (some 15) (v := ?_) rfl rfl (by kernel_rfl) (by kernel_rfl) (by kernel_rfl) (fun _ _ _ h => h) (Or.inl ⟨by rfl, ?_⟩) (by assumption) ?_
        rotate_left
        · (intro wx hSw; go_simp; try (with_reducible rfl))
        try simp only [Act.put, List.setIfInBounds_toArray, List.set_cons_zero, List.set_cons_succ]
        refine take_at (i := 4) (some 16) (v := ?_) rfl rfl (by kernel_rfl) (by kernel_rfl) (by kernel_rfl) (fun _ _ _ h => h) (Or.inl ⟨by rfl, ?_⟩) (by assumption) ?_
        rotate_left
        · (intro wx hSw; go_simp; try (with_reducible rfl))
        try simp only [Act.put, List.setIfInBounds_toArray, List.set_cons_zero, List.set_cons_succ]
        refine wpAnyH_ready (rs := [1]) (by kernel_rfl) (by simp) ?_
        refine AllReadyH.cons rfl (fun K hK => ?_) AllReadyH.nil
        go_simp
        refine (RefSeal_calls (hO.cs.drew) (by omega)).mono ?_
        rintro e w5 ⟨o5, A6, c5, rfl, h5, hn5, hc5⟩
        have hcl5 := hc5
        rw [HZ.out, Nat.sub_add_cancel hn4n] at h5
        have r13 := run_string (P := Try.prog) Try.underlying26 Try.underlying5 Try.underlying9 (c := c5) h5.cs
        have hk5 := hdr.trans hc5 (fun _ _ h => h)
        go_wp2_with fail
        refine hK.out _ _ ?_ (fun hHeld => ?_)
        · (assumption)
        clear hK K
        try simp only [Act.put, List.setIfInBounds_toArray, List.set_cons_zero, List.set_cons_succ]
        refine wpAnyH_ready (rs := [2]) (by kernel_rfl) (by simp) ?_
        refine AllReadyH.cons rfl (fun K hK => ?_) AllReadyH.nil
        go_simp
        refine hK.out _ _ ?_ (fun hHeld => ?_)
        · (assumption)
        clear hK K
        try simp only [Act.put, List.setIfInBounds_toArray, List.set_cons_zero, List.set_cons_succ]
        refine take_at (i := 5) (some 17) (v := ?_) rfl rfl (by kernel_rfl) (by kernel_rfl) (by kernel_rfl) (fun _ _ _ h => h) (Or.inl ⟨by rfl, ?_⟩) (by assumption) ?_
        rotate_left
        · (intro wx hSw; go_simp; try (with_reducible rfl))
        try simp only [Act.put, List.setIfInBounds_toArray, List.set_cons_zero, List.set_cons_succ]
        refine wpAnyH_done (by kernel_rfl) ?_ _
        go_wp2_with fail
        go_ret2
        exact .inr ⟨HO.out, rfl, hc01.trans hk5 (fun _ _ h => h)⟩
end Go.Proofs.Ytnehkheojgmocaa
