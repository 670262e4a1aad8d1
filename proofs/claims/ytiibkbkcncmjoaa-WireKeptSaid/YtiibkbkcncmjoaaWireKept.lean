/-
  WireKept: a Writer's and a Reader's bytes are their own: the walk through the law.
-/
import Derived.Test.YtiibkbkcncmjoaaWireFew
import Derived.Test.YtiibkbkcncmjoaaRefWire
import Derived.Test.YtiibkbkcncmjoaaScr
import Derived.Test.YtiibkbkcncmjoaaRegion
import Derived.Test.YtiibkbkcncmjoaaNarrow
namespace Go.Proofs.Ytiibkbkcncmjoaa
open Go.RowKit
set_option linter.unusedVariables false
set_option linter.unusedSimpArgs false

theorem rtake_one {l : List UInt8} {i : Nat} {z : Int} (h : i < l.length) : rtake l 1 ⟨i, 0, z⟩ = ([l[i]], ⟨i + 1, 0, z⟩) := by
  rw [rtake_ok rfl (by show ¬ l.length - i < 1; omega)]
  show ((l.drop i).take 1, _) = _
  rw [List.drop_eq_getElem_cons h]
  rfl

set_option maxRecDepth 100000 in
set_option maxHeartbeats 4000000 in
theorem wkept_walk {w : World} {A : Option Addr} {n c : Nat} {la : List UInt8} (ha : BytesArg w A n c la) :
    Calls Try.prog 3 #[.slice A n c] w (Holds1 w) := by
  have hsl := str_toList
  have hssz := str_size
  have ba := ha.2
  go_enter Try.func3, Try.ntmps3
  go_upto_if 12 with fail
  go_cut [0] (fun s wx => CutTo 5000 w A c s ∧ w = wx)
  case first =>
    by_cases h : 5000 < n
    all_goals
      go_wp2_with fail
      go_meet
    · exact ⟨cutTo_cut ha h, rfl⟩
    · exact ⟨cutTo_whole ha h, rfl⟩
  case rest =>
    obtain ⟨⟨na, L, rfl, ha1, ha2, ha3, ha4, ha5⟩, rfl⟩ := hcut
    have HA4 := Lib.hid ha4
    have hL : L.length ≤ 5000 := by omega
    clear ha4 ha
    go_wp2_with fail
    refine (NewWriter_calls (fun k => w.heap.size ≤ k) w (Nat.le_refl _)).mono ?_
    rintro e w1 ⟨rfl, hd1, hc1⟩
    obtain ⟨D, hD⟩ : ∃ D, w.heap.size = D := ⟨_, rfl⟩
    have hz1 := hc1.size
    rw [hD] at hd1 hz1 ha5 ⊢
    have HD := Lib.hid hD
    clear hD
    have a1 : Chg (fun k => D ≤ k) w w1 := hc1.wide
    have hx1 : Cs (w1.alloc (.cells #[] 5)) (fun k => k < D) A na (bv L) := ha5.chg (a1.alloc _) (fun k hk h1 h2 => by omega)
    go_wp2_with (at_builtin; refine wpList_append rfl _ _ 22 22 rfl 5 1 bytesApp none _ 0 0 [] (bv L) _ rfl rfl (Own.nil_ _ _ _) (Src.slice hx1) (bv_one L) na ?_ (by omega) (by omega) ?_)
    · rw [bv_length]; have := HA4.out; omega
    intro oM AM capM w2 hm2 hor hc2
    obtain ⟨hc12, hmn⟩ := copied ((Chg.refl (fun _ => False) w1).alloc _) hor hc2
    have hz2 := hc12.size
    have hm2lt := fun g h => hm2.lt (g := g) h
    have hd2 := (hd1.mono (V' := fun k => D ≤ k ∧ (k < w1.heap.size ∨ w2.heap.size ≤ k)) (fun k hk hv => ⟨hv, .inl hk⟩)).keep hc12
    have a2 := a1.trans hc12 (fun _ _ h => h.elim)
    clear hd1 a1 hx1 hor hc2
    have ra : ∀ wx, Chg (fun k => D ≤ k) w wx → (convert 22 9 (.slice A na c)).run Try.prog wx = .ok (.string (str L)) wx := fun wx h =>
      run_string (P := Try.prog) Try.underlying22 Try.underlying5 Try.underlying9 (ha5.chg h (fun k hk h1 h2 => by omega))
    have ra2 := ra w2 a2
    go_wp2_with fail
    refine (WText_calls hd2 (fun k hk => ⟨by omega, .inr hk⟩) (str L) (by rw [str_size]; show 0 + 2 + L.length ≤ _; omega)).mono ?_
    rintro e w3 ⟨rfl, hd3, hc3⟩
    rw [show (str L).data.toList = L from rfl, str_size, List.nil_append] at hd3
    have hm3 := hm2.chg hc3 (fun k hk h => by have := hmn k hk; have := hm2lt k hk; omega)
    have hz3 := hc3.size
    have a3 := a2.trans hc3 (fun _ _ h => h.1)
    clear hd2 hm2 a2 ra2
    obtain ⟨bs, hbs⟩ : ∃ bs, le 2 L.length ++ L = bs := ⟨_, rfl⟩
    have hbl : bs.length = L.length + 2 := by rw [← hbs, List.length_append, le_length]; omega
    rw [hbs] at hd3
    have HBS := Lib.hid hbs
    have HBL := Lib.hid hbl
    have hbl5 : bs.length ≤ 5002 := by omega
    clear hbs hbl
    go_wp2_with fail
    refine (Done_calls hd3 (by omega)).mono ?_
    rintro e w4 ⟨oX, AX, cX, rfl, hX, hXn, hc4⟩
    have hz4 := hc4.size
    have hXlt := fun g h => hX.lt (g := g) h
    have hX4 : Scr w4 oX AX bs.length cX := ⟨_, hX, bv_scr bs⟩
    have hd4 := (hd3.mono (V' := fun k => D ≤ k ∧ (k < w1.heap.size ∨ (w2.heap.size ≤ k ∧ k < w3.heap.size))) (fun k hk hv => ⟨hv.1, by omega⟩)).keep hc4
    have hm4 := hm3.chg hc4 (fun _ _ h => h)
    have a4 := a3.trans hc4 (fun _ _ h => h.elim)
    clear hd3 hm3 a3 hX
    go_wp2_with fail
    go_loopw [6] (fun i wr => ∃ k : Nat, k ≤ bs.length ∧ i = .int .i64 k ∧ WrAt (fun k => D ≤ k ∧ (k < w1.heap.size ∨ (w2.heap.size ≤ k ∧ k < w3.heap.size))) wr D bs ∧ Own wr 5 oM AM na capM (bv L) ∧ Scr wr oX AX bs.length cX ∧ Chg (fun k => D ≤ k) w wr ∧ w4.heap.size ≤ wr.heap.size) (fun i _ => bs.length - (intOf i).toNat)
    case atStart => exact ⟨0, Nat.zero_le _, rfl, hd4, hm4, hX4, a4, Nat.le_refl _⟩
    case round =>
      obtain ⟨k, hk, rfl, hd, hm, hX, a, hz⟩ := hrel
      by_cases hlt : k < bs.length
      · obtain ⟨g, v, hg, rfl, hc, hf, hset⟩ := hX.at_ hlt
        have g1 := hXn g hg
        have g2 := hXlt g hg
        have HS := Lib.hid hset
        have HG := Lib.hid hg
        clear hset hg
        go_wp2_with fail
        go_roundw
        case rel => exact ⟨k + 1, by omega, by go_num, hd.chg (Chg.one wr ⟨g, k, none⟩ _) (fun i hi h1 h2 => by simp only at h2; omega), hm.chg (Chg.one wr ⟨g, k, none⟩ _) (fun i hi h2 => by have := hmn i hi; have := hm2lt i hi; simp only at h2; omega), HS.out _, a.setIn (show D ≤ g by omega) _ _, by simpa using hz⟩
        case measure => simp [intOf]; omega
      · clear hX hd4 hm4 hX4 a4
        obtain ⟨w55, rfl⟩ : ∃ x : World, x = wr := ⟨_, rfl⟩
        go_wp2_with fail
        refine (NewReader_calls (fun k => w55.heap.size ≤ k) hm.cs (by omega) (fun k hk => hk)).mono ?_
        rintro e w6 ⟨R, rfl, hR, r6, hc6⟩
        have hz6 := hc6.size
        have r6 := r6.mono (V' := fun k => w55.heap.size ≤ k ∧ k < w6.heap.size) fun k hk hv => ⟨hv, hk⟩
        have hd6 := hd.keep hc6
        have hm6 : Scr w6 oM AM na capM := ⟨_, hm.chg hc6 (fun _ _ h => h), bv_scr L⟩
        have a6 := a.trans hc6 (fun _ _ h => h.elim)
        clear hd hm a
        go_wp2_with fail
        go_loopw [8] (fun i wq => ∃ k : Nat, k ≤ na ∧ i = .int .i64 k ∧ WrAt (fun k => D ≤ k ∧ (k < w1.heap.size ∨ (w2.heap.size ≤ k ∧ k < w3.heap.size))) wq D bs ∧ Scr wq oM AM na capM ∧ RdAt (fun k => w55.heap.size ≤ k ∧ k < w6.heap.size) wq R L ⟨0, 0, 0⟩ ∧ Chg (fun k => D ≤ k) w wq) (fun i _ => na - (intOf i).toNat)
        case atStart => exact ⟨0, Nat.zero_le _, rfl, hd6, hm6, r6, a6⟩
        case round =>
          obtain ⟨k, hk, rfl, hd, hm, r, a⟩ := hrel
          obtain ⟨wq, rfl⟩ : ∃ x : World, x = wr := ⟨_, rfl⟩
          by_cases hlt : k < na
          · obtain ⟨g, v, hg, rfl, hc, hf, hset⟩ := hm.at_ hlt
            have g1 := hmn g hg
            have g2 := hm2lt g hg
            have HS := Lib.hid hset
            have HG := Lib.hid hg
            clear hset hg
            go_wp2_with fail
            go_roundw
            case rel => exact ⟨k + 1, by omega, by go_num, hd.chg (Chg.one wq ⟨g, k, none⟩ _) (fun i hi h1 h2 => by simp only at h2; omega), HS.out _, r.chg (Chg.one wq ⟨g, k, none⟩ _) (fun i hi h1 h2 => by simp only at h2; omega), a.setIn (show D ≤ g by omega) _ _⟩
            case measure => simp [intOf]; omega
          · clear hm hm6 hd6 r6 a6
            go_wp2_with fail
            go_loopw [9] (fun i wp => ∃ k : Nat, k ≤ na ∧ i = .int .i64 k ∧ WrAt (fun k => D ≤ k ∧ (k < w1.heap.size ∨ (w2.heap.size ≤ k ∧ k < w3.heap.size))) wp D bs ∧ RdAt (fun k => w55.heap.size ≤ k ∧ k < w6.heap.size) wp R L ⟨k, 0, 0⟩ ∧ Chg (fun k => D ≤ k) w wp) (fun i _ => na - (intOf i).toNat)
            case atStart => exact ⟨0, Nat.zero_le _, rfl, hd, r, a⟩
            case round =>
              clear hd r a
              obtain ⟨k, hk, rfl, hd, r, a⟩ := hrel
              obtain ⟨wp, rfl⟩ : ∃ x : World, x = wr := ⟨_, rfl⟩
              by_cases hlt : k < na
              · have kL : k < L.length := by have := HA4.out; omega
                obtain ⟨b, off, rfl, hb, hcell⟩ := (ha5.chg a (fun k hk h1 h2 => by omega)).2 (by omega)
                have hci := hcell k _ (bv_get kL)
                have hri := r.inV
                have hbne : ¬ b = R := by omega
                have h1 := rtake_one (z := 0) kL
                have H1 := Lib.hid h1
                have hb256 : (L[k].toNat) < 256 := L[k].toNat_lt
                have hn1 : num [L[k]] = L[k].toNat := by simp [num]
                obtain ⟨y, hy⟩ : ∃ y, L[k].toNat = y := ⟨_, rfl⟩
                rw [hy] at hci hb256 hn1
                have HN1 := Lib.hid hn1
                have HC := Lib.hid hcell
                clear hcell h1 hn1 hy
                have hcid : wp.drew.cell? ⟨b, off + k, none⟩ = some (.int .u8 (y : Int)) := hci
                have hk0 : (k : Int) < (na : Int) := by omega
                have hw64 := IntWalk.i64_in (y : Int) (by omega)
                have hbx : ((y : Int) != (y : Int)) = false := by simp
                go_wp2_with fail
                refine wp_region_held_drew (S := fun wx => wx.cell? ⟨b, off + k, none⟩ = some (.int .u8 (y : Int))) (by kernel_rfl) hcid (fun hHeld => ?_)
                refine take_at (i := 0) (some 65) (v := ?_) rfl rfl (by kernel_rfl) (by kernel_rfl) (by kernel_rfl) (fun _ _ _ h => h) (Or.inl ⟨by rfl, ?_⟩) (by assumption) ?_
                rotate_left
                · (intro wx hSw; go_simp; try (with_reducible rfl))
                try simp only [Act.put, List.setIfInBounds_toArray, List.set_cons_zero, List.set_cons_succ]
                refine take_at (i := 2) (some 67) (v := ?_) rfl rfl (by kernel_rfl) (by kernel_rfl) (by kernel_rfl) (fun _ _ _ h => h) (Or.inl ⟨by rfl, ?_⟩) (by assumption) ?_
                rotate_left
                · (intro wx hSw; go_simp; try (with_reducible rfl))
                try simp only [Act.put, List.setIfInBounds_toArray, List.set_cons_zero, List.set_cons_succ]
                refine take_at (i := 3) (some 68) (v := ?_) rfl rfl (by kernel_rfl) (by kernel_rfl) (by kernel_rfl) (fun _ _ _ h => h) (Or.inl ⟨by rfl, ?_⟩) (by assumption) ?_
                rotate_left
                · (intro wx hSw; go_simp; try (with_reducible rfl))
                try simp only [Act.put, List.setIfInBounds_toArray, List.set_cons_zero, List.set_cons_succ]
                refine take_at (i := 4) (some 69) (v := ?_) rfl rfl (by kernel_rfl) (by kernel_rfl) (by kernel_rfl) (fun _ _ _ h => h) (Or.inl ⟨by rfl, ?_⟩) (by assumption) ?_
                rotate_left
                · (intro wx hSw; go_simp; try (with_reducible rfl))
                try simp only [Act.put, List.setIfInBounds_toArray, List.set_cons_zero, List.set_cons_succ]
                refine take_at (i := 5) (some 70) (v := ?_) rfl rfl (by kernel_rfl) (by kernel_rfl) (by kernel_rfl) (fun _ _ _ h => h) (Or.inl ⟨by rfl, ?_⟩) (by assumption) ?_
                rotate_left
                · (intro wx hSw; go_simp; try (with_reducible rfl))
                try simp only [Act.put, List.setIfInBounds_toArray, List.set_cons_zero, List.set_cons_succ]
                refine take_at (i := 6) (some 71) (v := ?_) rfl rfl (by kernel_rfl) (by kernel_rfl) (by kernel_rfl) (fun _ _ _ h => h) (Or.inl ⟨by rfl, ?_⟩) (by assumption) ?_
                rotate_left
                · (intro wx hSw; go_simp; try (with_reducible rfl))
                try simp only [Act.put, List.setIfInBounds_toArray, List.set_cons_zero, List.set_cons_succ]
                refine wpAnyH_ready (rs := [1]) (by kernel_rfl) (by simp) ?_
                refine AllReadyH.cons rfl (fun K hK => ?_) AllReadyH.nil
                go_simp
                refine (RByte_calls (r.keep ((Chg.refl _ wp).drew))).mono ?_
                rw [H1.out]
                rintro e wR ⟨rfl, rR, hcR⟩
                rw [HN1.out]
                have hcR1 := hcR.cell hcid hbne
                go_wp2_with fail
                refine hK.out _ _ ?_ (fun hHeld => ?_)
                · (assumption)
                clear hK K
                try simp only [Act.put, List.setIfInBounds_toArray, List.set_cons_zero, List.set_cons_succ]
                refine take_at (i := 7) (some 72) (v := ?_) rfl rfl (by kernel_rfl) (by kernel_rfl) (by kernel_rfl) (fun _ _ _ h => h) (Or.inl ⟨by rfl, ?_⟩) (by assumption) ?_
                rotate_left
                · (intro wx hSw; go_simp; try (with_reducible rfl))
                try simp only [Act.put, List.setIfInBounds_toArray, List.set_cons_zero, List.set_cons_succ]
                refine wpAnyH_done (by kernel_rfl) ?_ _
                go_wp2_with fail
                go_roundw
                case rel => exact ⟨k + 1, by omega, by go_num, (hd.keep ((Chg.refl _ wp).drew)).chg hcR (fun i hi h1 h2 => by omega), rR, (a.drew).trans hcR (fun i _ h => by omega)⟩
                case measure => simp [intOf]; omega
              · have hdr : Chg (fun _ => False) wp wp.drew := (Chg.refl _ _).drew
                have rb : ∀ wx, Chg (fun _ => False) wp wx → (convert 22 9 (.slice A na c)).run Try.prog wx = .ok (.string (str L)) wx := fun wx h => ra wx (a.trans h (fun _ _ h => h.elim))
                have HRA := Lib.hid ra
                clear ra r
                go_wp2_with fail
                refine wp_region_held_drew (S := fun wx => Chg (fun _ => False) wp wx) (by kernel_rfl) hdr (fun hHeld => ?_)
                refine take_at (i := 0) (some 73) (v := ?_) rfl rfl (by kernel_rfl) (by kernel_rfl) (by kernel_rfl) (fun _ _ _ h => h) (Or.inl ⟨by rfl, ?_⟩) (by assumption) ?_
                rotate_left
                · (intro wx hSw; go_simp; try (with_reducible rfl))
                try simp only [Act.put, List.setIfInBounds_toArray, List.set_cons_zero, List.set_cons_succ]
                refine take_at (i := 3) (some 76) (v := ?_) rfl rfl (by kernel_rfl) (by kernel_rfl) (by kernel_rfl) (fun _ _ _ h => h) (Or.inl ⟨by rfl, ?_⟩) (by assumption) ?_
                rotate_left
                · (intro wx hSw; go_simp; try (with_reducible rfl))
                try simp only [Act.put, List.setIfInBounds_toArray, List.set_cons_zero, List.set_cons_succ]
                refine take_at (i := 4) (some 77) (v := ?_) rfl rfl (by kernel_rfl) (by kernel_rfl) (by kernel_rfl) (fun _ _ _ h => h) (Or.inl ⟨by rfl, ?_⟩) (by assumption) ?_
                rotate_left
                · (intro wx hSw; go_simp; try (with_reducible rfl))
                try simp only [Act.put, List.setIfInBounds_toArray, List.set_cons_zero, List.set_cons_succ]
                refine wpAnyH_ready (rs := [1]) (by kernel_rfl) (by simp) ?_
                refine AllReadyH.cons rfl (fun K hK => ?_) AllReadyH.nil
                go_simp
                refine (Done_calls (hd.keep hdr) (by omega)).mono ?_
                rintro e w5 ⟨o5, A5, c5, rfl, h5, hn5, hc5⟩
                have hk5 : Chg (fun _ => False) wp w5 := hdr.trans hc5 (fun _ _ h => h)
                go_wp2_with fail
                refine hK.out _ _ ?_ (fun hHeld => ?_)
                · (assumption)
                clear hK K
                try simp only [Act.put, List.setIfInBounds_toArray, List.set_cons_zero, List.set_cons_succ]
                refine narrow_at (S' := fun wx => Chg (fun _ => False) w5 wx) (fun wx h => hk5.trans h (fun _ _ h => h)) ?_
                have hHeld : Chg (fun _ => False) w5 w5 := Chg.refl _ _
                have r5 : ∀ wx, Chg (fun _ => False) w5 wx → (convert 22 9 (.slice A5 bs.length c5)).run Try.prog wx = .ok (.string (str (bs))) wx := fun wx hx => run_string (P := Try.prog) Try.underlying22 Try.underlying5 Try.underlying9 (h5.cs.chg hx (fun _ _ _ hf => hf))
                refine take_at (i := 2) (some 75) (v := ?_) rfl rfl (by kernel_rfl) (by kernel_rfl) (by kernel_rfl) (fun _ _ _ h => h) (Or.inl ⟨by rfl, ?_⟩) (by assumption) ?_
                rotate_left
                · (intro wx hSw; go_simp; try (with_reducible rfl))
                try simp only [Act.put, List.setIfInBounds_toArray, List.set_cons_zero, List.set_cons_succ]
                refine wpAnyH_ready (rs := [5]) (by kernel_rfl) (by simp) ?_
                refine AllReadyH.cons rfl (fun K hK => ?_) AllReadyH.nil
                go_simp
                refine (RefText_calls (S := fun _ => False) (l := []) (w := w5) (Cs.none_) (str L) (by rw [str_size]; omega)).mono ?_
                rw [str_size, show (str L).data.toList = L from rfl, List.nil_append, HBS.out, show 0 + 2 + L.length = bs.length by have := HBL.out; omega]
                rintro e w6x ⟨o6, A6, c6, rfl, h6, hn6, hc6x⟩
                have hk6 := hk5.trans hc6x (fun _ _ h => h)
                go_wp2_with fail
                refine hK.out _ _ ?_ (fun hHeld => ?_)
                · (assumption)
                clear hK K
                try simp only [Act.put, List.setIfInBounds_toArray, List.set_cons_zero, List.set_cons_succ]
                refine narrow_at (S' := fun wx => Chg (fun _ => False) w6x wx) (fun wx h => hc6x.trans h (fun _ _ h => h)) ?_
                have hHeld : Chg (fun _ => False) w6x w6x := Chg.refl _ _
                have r6 : ∀ wx, Chg (fun _ => False) w6x wx → (convert 22 9 (.slice A6 bs.length c6)).run Try.prog wx = .ok (.string (str (bs))) wx := fun wx hx => run_string (P := Try.prog) Try.underlying22 Try.underlying5 Try.underlying9 (h6.cs.chg hx (fun _ _ _ hf => hf))
                refine take_at (i := 6) (some 79) (v := ?_) rfl rfl (by kernel_rfl) (by kernel_rfl) (by kernel_rfl) (fun _ _ _ h => h) (Or.inl ⟨by rfl, ?_⟩) (by assumption) ?_
                rotate_left
                · (intro wx hSw; go_simp; try (with_reducible rfl))
                try simp only [Act.put, List.setIfInBounds_toArray, List.set_cons_zero, List.set_cons_succ]
                refine take_at (i := 7) (some 80) (v := ?_) rfl rfl (by kernel_rfl) (by kernel_rfl) (by kernel_rfl) (fun _ _ _ h => h) (Or.inl ⟨by rfl, ?_⟩) (by assumption) ?_
                rotate_left
                · (intro wx hSw; go_simp; try (with_reducible rfl))
                try simp only [Act.put, List.setIfInBounds_toArray, List.set_cons_zero, List.set_cons_succ]
                refine take_at (i := 8) (some 81) (v := ?_) rfl rfl (by kernel_rfl) (by kernel_rfl) (by kernel_rfl) (fun _ _ _ h => h) (Or.inl ⟨by rfl, ?_⟩) (by assumption) ?_
                rotate_left
                · (intro wx hSw; go_simp; try (with_reducible rfl))
                try simp only [Act.put, List.setIfInBounds_toArray, List.set_cons_zero, List.set_cons_succ]
                refine wpAnyH_ready (rs := [9]) (by kernel_rfl) (by simp) ?_
                refine AllReadyH.cons rfl (fun K hK => ?_) AllReadyH.nil
                go_simp
                refine (known1 _).mono ?_
                rintro e w9 ⟨rfl, hc9⟩
                have hk9 := hk6.trans hc9 (fun _ _ h => h)
                go_wp2_with fail
                refine hK.out _ _ ?_ (fun hHeld => ?_)
                · (assumption)
                clear hK K
                try simp only [Act.put, List.setIfInBounds_toArray, List.set_cons_zero, List.set_cons_succ]
                refine take_at (i := 10) (some 83) (v := ?_) rfl rfl (by kernel_rfl) (by kernel_rfl) (by kernel_rfl) (fun _ _ _ h => h) (Or.inl ⟨by rfl, ?_⟩) (by assumption) ?_
                rotate_left
                · (intro wx hSw; go_simp; try (with_reducible rfl))
                try simp only [Act.put, List.setIfInBounds_toArray, List.set_cons_zero, List.set_cons_succ]
                refine take_at (i := 11) (some 2) (v := ?_) rfl rfl (by kernel_rfl) (by kernel_rfl) (by kernel_rfl) (fun _ _ _ h => h) (Or.inl ⟨by rfl, ?_⟩) (by assumption) ?_
                rotate_left
                · (intro wx hSw; go_simp; try (with_reducible rfl))
                try simp only [Act.put, List.setIfInBounds_toArray, List.set_cons_zero, List.set_cons_succ]
                refine wpAnyH_done (by kernel_rfl) ?_ _
                go_wp2_with fail
                go_ret
                exact ⟨rfl, (a.trans hk9 (fun _ _ h => h.elim)).new fun k hk h => by have := HD.out; omega⟩
end Go.Proofs.Ytiibkbkcncmjoaa
