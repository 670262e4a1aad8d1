/-
  DiskSafe: what was safe stays through any crash; a Swap is whole and safe at once: the walk through the law.
-/
import Derived.Test.YtnehkheojgmocaaDiskRounds
import Derived.Deep.DeepCutAuto
import Derived.Deep.RegionWith
import Derived.Test.YtnehkheojgmocaaRegion
namespace Go.Proofs.Ytnehkheojgmocaa
open Go.RowKit
set_option linter.unusedVariables false
set_option linter.unusedSimpArgs false

/-- an argument cut to M bytes at most -/
def CutTo (M : Nat) (w : World) (A : Option Addr) (c : Nat) (s : Value) : Prop :=
  ∃ N L, s = .slice A N c ∧ N ≤ M ∧ N ≤ c ∧ c ≤ 9223372036854775807 ∧ L.length = N ∧ Cs w (fun k => k < w.heap.size) A N (bv L)
theorem cutTo_whole {M : Nat} {w : World} {A : Option Addr} {n c : Nat} {l : List UInt8} (h : BytesArg w A n c l) (hn : ¬ M < n) : CutTo M w A c (.slice A n c) :=
  ⟨n, l, rfl, by omega, h.2.1, h.2.2, by rw [← bv_length]; exact h.1.1, h.1⟩
theorem cutTo_cut {M : Nat} {w : World} {A : Option Addr} {n c : Nat} {l : List UInt8} (h : BytesArg w A n c l) (hn : M < n) : CutTo M w A c (.slice A M c) :=
  ⟨M, l.take M, rfl, Nat.le_refl _, by have := h.2.1; omega, h.2.2, by have := h.1.1; rw [bv_length] at this; rw [List.length_take]; omega, by rw [bv_take]; exact h.1.take (by omega)⟩

set_option maxRecDepth 100000 in
set_option maxHeartbeats 4000000 in
theorem safe_walk {w : World} {A B C : Option Addr} {n c m d p q : Nat} {la lb lc : List UInt8} {keep : Int} (ha : BytesArg w A n c la) (hb : BytesArg w B m d lb) (hc : BytesArg w C p q lc)
    (hk : -9223372036854775808 ≤ keep ∧ keep ≤ 9223372036854775807) :
    Calls Try.prog 7 #[.slice A n c, .slice B m d, .slice C p q, .int .i64 keep] w (Holds w) := by
  have kc := fun (w : World) (C : Array Value) (n c : Nat) => Lib.run_convert_bytes_const (P := Try.prog) w 26 5 C n c Try.underlying26 Try.underlying5
  have hsz := str_size
  have hsl := str_toList
  have ba := ha.2
  have bb := hb.2
  have bc := hc.2
  go_enter Try.func7, Try.ntmps7
  go_wp2_with fail
  refine (New_in _).mono ?_
  rintro e w1 ⟨rfl, hd1⟩
  obtain ⟨D, hD⟩ : ∃ D, w.heap.size = D := ⟨_, rfl⟩
  rw [hD] at hd1 ⊢
  have HD := Lib.hid hD
  clear hD
  go_upto_if 15 with fail
  go_cut [0] (fun s wx => CutTo 500 w A c s ∧ w1 = wx)
  case first =>
    by_cases h : 500 < n
    all_goals
      go_wp2_with fail
      go_meet
    · exact ⟨cutTo_cut ha h, rfl⟩
    · exact ⟨cutTo_whole ha h, rfl⟩
  case rest =>
    obtain ⟨⟨na, La, rfl, ha1, ha2, ha3, ha4, ha5⟩, rfl⟩ := hcut
    have HA4 := Lib.hid ha4
    clear ha4
    go_upto_if 20 with fail
    go_cut [1] (fun s wx => CutTo 500 w B d s ∧ w1 = wx)
    case first =>
      by_cases h : 500 < m
      all_goals
        go_wp2_with fail
        go_meet
      · exact ⟨cutTo_cut hb h, rfl⟩
      · exact ⟨cutTo_whole hb h, rfl⟩
    case rest =>
      obtain ⟨⟨nb, Lb, rfl, hb1, hb2, hb3, hb4, hb5⟩, rfl⟩ := hcut
      have HB4 := Lib.hid hb4
      clear hb4
      go_upto_if 25 with fail
      go_cut [2] (fun s wx => CutTo 500 w C q s ∧ w1 = wx)
      case first =>
        by_cases h : 500 < p
        all_goals
          go_wp2_with fail
          go_meet
        · exact ⟨cutTo_cut hc h, rfl⟩
        · exact ⟨cutTo_whole hc h, rfl⟩
      case rest =>
        obtain ⟨⟨nc, Lc, rfl, hc1, hc2, hc3, hc4, hc5⟩, rfl⟩ := hcut
        have HC4 := Lib.hid hc4
        clear hc4
        go_wp2_with fail
        refine (Append_in hd1 (ha5.chg hd1.kept (fun _ _ _ hf => hf)) (by simp; omega)).mono ?_
        rintro e w2 ⟨rfl, hd2⟩
        rw [List.nil_append] at hd2
        go_wp2_with fail
        refine (Sync_in hd2).mono ?_
        rintro e w3 ⟨rfl, hd3⟩
        have hla : La.length ≤ 500 := by have := HA4.out; omega
        have hlb : Lb.length ≤ 500 := by have := HB4.out; omega
        go_wp2_with fail
        refine (Append_in hd3 (hb5.chg hd3.kept (fun _ _ _ hf => hf)) (by omega)).mono ?_
        rintro e w4 ⟨rfl, hd4⟩
        go_wp2_with fail
        refine (Crash_in keep hd4).mono ?_
        rintro e w5 ⟨rfl, hd5⟩
        obtain ⟨K, hK1, hK2⟩ : ∃ K : Nat, kept (La ++ Lb).length La.length keep = La.length + K ∧ (K : Int) = min (max keep 0) (nb : Int) := by
          refine ⟨(min (max keep 0) (nb : Int)).toNat, ?_, by omega⟩
          have := HB4.out
          unfold kept
          rw [List.length_append]
          omega
        have hYl : ((La ++ Lb).take (La.length + K)).length = La.length + K := by have := HB4.out; rw [List.length_take, List.length_append]; omega
        rw [hK1] at hd5
        have hY : (La ++ Lb).take (La.length + K) = La ++ Lb.take K := by rw [List.take_length_add_append]
        rw [hY] at hd5 hYl
        rw [← hYl] at hd5
        have hsa := str_append La (Lb.take K)
        have hKB : K ≤ nb := by omega
        generalize La ++ Lb.take K = Y at hd5 hYl hsa
        have HY := Lib.hid hYl
        have HK2 := Lib.hid hK2
        clear hK1 hK2 hY hYl
        go_upto_if 40 with fail
        go_cut [3] (fun s wx => s = .int .i64 (max keep 0) ∧ w5 = wx)
        case first =>
          by_cases h : keep < 0
          all_goals
            go_wp2_with fail
            go_meet
          · exact ⟨by congr 1; omega, rfl⟩
          · exact ⟨by congr 1; omega, rfl⟩
        case rest =>
          obtain ⟨rfl, rfl⟩ := hcut
          go_upto_if 44 with fail
          go_cut [3] (fun s wx => s = .int .i64 (K : Int) ∧ w5 = wx)
          case first =>
            obtain ⟨kk, hkk⟩ : ∃ kk, max keep 0 = kk := ⟨_, rfl⟩
            have h2 := HK2.out
            rw [hkk] at h2 ⊢
            have HK3 := Lib.hid h2
            clear h2 hkk
            by_cases h : (nb : Int) < kk
            all_goals
              go_wp2_with fail
              go_meet
            · exact ⟨by have := HK3.out; congr 1; omega, rfl⟩
            · exact ⟨by have := HK3.out; congr 1; omega, rfl⟩
          case rest =>
            obtain ⟨rfl, rfl⟩ := hcut
            go_upto_region 18 with fail
            go_cut [66] (fun s wx => s = .bool false ∧ DiskIn w wx D Y Y.length)
            case first =>
              have hdr : DiskIn w w5.drew D Y Y.length := hd5.step ((Chg.refl _ _).drew)
              have ra : ∀ wx, DiskIn w wx D Y Y.length → (convert 26 9 (.slice A na c)).run Try.prog wx = .ok (.string (str La)) wx := fun wx h =>
                run_string (P := Try.prog) Try.underlying26 Try.underlying5 Try.underlying9 (ha5.chg h.kept (fun _ _ _ hf => hf))
              have rb : ∀ wx, DiskIn w wx D Y Y.length → (convert 26 9 (.slice B K d)).run Try.prog wx = .ok (.string (str (Lb.take K))) wx := fun wx h =>
                run_string (P := Try.prog) Try.underlying26 Try.underlying5 Try.underlying9 (by rw [bv_take]; exact (hb5.chg h.kept (fun _ _ _ hf => hf)).take hKB)
              have hKd : (K : Int) ≤ (d : Int) := by omega
              have hwr : IntKind.i64.wrap ((na : Int) + (K : Int)) = (Y.length : Int) := by have := HY.out; have := HA4.out; rw [IntWalk.i64_in _ (by omega)]; omega
              have hnn : ¬ (9223372036854775807 < La.length + min K Lb.length) := by omega
              refine wp_region_held_drew (S := fun wx => DiskIn w wx D Y Y.length) (by kernel_rfl) hdr (fun hHeld => ?_)
              refine take_at (i := 0) (some 47) (v := ?_) rfl rfl (by kernel_rfl) (by kernel_rfl) (by kernel_rfl) (fun _ _ _ h => h) (Or.inl ⟨by rfl, ?_⟩) (by assumption) ?_
              rotate_left
              · (intro wx hSw; go_simp; try (with_reducible rfl))
              try simp only [Act.put, List.setIfInBounds_toArray, List.set_cons_zero, List.set_cons_succ]
              refine take_at (i := 3) (some 50) (v := ?_) rfl rfl (by kernel_rfl) (by kernel_rfl) (by kernel_rfl) (fun _ _ _ h => h) (Or.inl ⟨by rfl, ?_⟩) (by assumption) ?_
              rotate_left
              · (intro wx hSw; go_simp; try (with_reducible rfl))
              try simp only [Act.put, List.setIfInBounds_toArray, List.set_cons_zero, List.set_cons_succ]
              refine take_at (i := 4) (some 51) (v := ?_) rfl rfl (by kernel_rfl) (by kernel_rfl) (by kernel_rfl) (fun _ _ _ h => h) (Or.inl ⟨by rfl, ?_⟩) (by assumption) ?_
              rotate_left
              · (intro wx hSw; go_simp; try (with_reducible rfl))
              try simp only [Act.put, List.setIfInBounds_toArray, List.set_cons_zero, List.set_cons_succ]
              refine take_at (i := 5) (some 52) (v := ?_) rfl rfl (by kernel_rfl) (by kernel_rfl) (by kernel_rfl) (fun _ _ _ h => h) (Or.inl ⟨by rfl, ?_⟩) (by assumption) ?_
              rotate_left
              · (intro wx hSw; go_simp; try (with_reducible rfl))
              try simp only [Act.put, List.setIfInBounds_toArray, List.set_cons_zero, List.set_cons_succ]
              refine take_at (i := 6) (some 53) (v := ?_) rfl rfl (by kernel_rfl) (by kernel_rfl) (by kernel_rfl) (fun _ _ _ h => h) (Or.inl ⟨by rfl, ?_⟩) (by assumption) ?_
              rotate_left
              · (intro wx hSw; go_simp; try (with_reducible rfl))
              try simp only [Act.put, List.setIfInBounds_toArray, List.set_cons_zero, List.set_cons_succ]
              refine take_at (i := 7) (some 54) (v := ?_) rfl rfl (by kernel_rfl) (by kernel_rfl) (by kernel_rfl) (fun _ _ _ h => h) (Or.inl ⟨by rfl, ?_⟩) (by assumption) ?_
              rotate_left
              · (intro wx hSw; go_simp; try (with_reducible rfl))
              try simp only [Act.put, List.setIfInBounds_toArray, List.set_cons_zero, List.set_cons_succ]
              refine take_at (i := 8) (some 55) (v := ?_) rfl rfl (by kernel_rfl) (by kernel_rfl) (by kernel_rfl) (fun _ _ _ h => h) (Or.inl ⟨by rfl, ?_⟩) (by assumption) ?_
              rotate_left
              · (intro wx hSw; go_simp; try (with_reducible rfl))
              try simp only [Act.put, List.setIfInBounds_toArray, List.set_cons_zero, List.set_cons_succ]
              refine take_at (i := 9) (some 56) (v := ?_) rfl rfl (by kernel_rfl) (by kernel_rfl) (by kernel_rfl) (fun _ _ _ h => h) (Or.inl ⟨by rfl, ?_⟩) (by assumption) ?_
              rotate_left
              · (intro wx hSw; go_simp; try (with_reducible rfl))
              try simp only [Act.put, List.setIfInBounds_toArray, List.set_cons_zero, List.set_cons_succ]
              refine wpAnyH_ready (rs := [1]) (by kernel_rfl) (by simp) ?_
              refine AllReadyH.cons rfl (fun K hK => ?_) AllReadyH.nil
              go_simp
              refine (Bytes_in (by assumption)).mono ?_
              rintro e w6 ⟨own, A8, cap8, rfl, hcs, hd6⟩
              have hst := run_string (P := Try.prog) (c := cap8) Try.underlying26 Try.underlying5 Try.underlying9 hcs
              go_wp2_with fail
              refine hK.out _ _ ?_ (fun hHeld => ?_)
              · (assumption)
              clear hK K
              try simp only [Act.put, List.setIfInBounds_toArray, List.set_cons_zero, List.set_cons_succ]
              refine wpAnyH_ready (rs := [2]) (by kernel_rfl) (by simp) ?_
              refine AllReadyH.cons rfl (fun K hK => ?_) AllReadyH.nil
              go_simp
              refine hK.out _ _ ?_ (fun hHeld => ?_)
              · (assumption)
              clear hK K
              try simp only [Act.put, List.setIfInBounds_toArray, List.set_cons_zero, List.set_cons_succ]
              refine take_at (i := 10) (some 57) (v := ?_) rfl rfl (by kernel_rfl) (by kernel_rfl) (by kernel_rfl) (fun _ _ _ h => h) (Or.inl ⟨by rfl, ?_⟩) (by assumption) ?_
              rotate_left
              · (intro wx hSw; go_simp; try (with_reducible rfl))
              try simp only [Act.put, List.setIfInBounds_toArray, List.set_cons_zero, List.set_cons_succ]
              refine take_at (i := 11) (some 58) (v := ?_) rfl rfl (by kernel_rfl) (by kernel_rfl) (by kernel_rfl) (fun _ _ _ h => h) (Or.inl ⟨by rfl, ?_⟩) (by assumption) ?_
              rotate_left
              · (intro wx hSw; go_simp; try (with_reducible rfl))
              try simp only [Act.put, List.setIfInBounds_toArray, List.set_cons_zero, List.set_cons_succ]
              refine take_at (i := 12) (some 59) (v := ?_) rfl rfl (by kernel_rfl) (by kernel_rfl) (by kernel_rfl) (fun _ _ _ h => h) (Or.inl ⟨by rfl, ?_⟩) (by assumption) ?_
              rotate_left
              · (intro wx hSw; go_simp; try (with_reducible rfl))
              try simp only [Act.put, List.setIfInBounds_toArray, List.set_cons_zero, List.set_cons_succ]
              refine take_at (i := 14) (some 61) (v := ?_) rfl rfl (by kernel_rfl) (by kernel_rfl) (by kernel_rfl) (fun _ _ _ h => h) (Or.inl ⟨by rfl, ?_⟩) (by assumption) ?_
              rotate_left
              · (intro wx hSw; go_simp; try (with_reducible rfl))
              try simp only [Act.put, List.setIfInBounds_toArray, List.set_cons_zero, List.set_cons_succ]
              refine take_at (i := 15) (some 62) (v := ?_) rfl rfl (by kernel_rfl) (by kernel_rfl) (by kernel_rfl) (fun _ _ _ h => h) (Or.inl ⟨by rfl, ?_⟩) (by assumption) ?_
              rotate_left
              · (intro wx hSw; go_simp; try (with_reducible rfl))
              try simp only [Act.put, List.setIfInBounds_toArray, List.set_cons_zero, List.set_cons_succ]
              refine take_at (i := 16) (some 63) (v := ?_) rfl rfl (by kernel_rfl) (by kernel_rfl) (by kernel_rfl) (fun _ _ _ h => h) (Or.inl ⟨by rfl, ?_⟩) (by assumption) ?_
              rotate_left
              · (intro wx hSw; go_simp; try (with_reducible rfl))
              try simp only [Act.put, List.setIfInBounds_toArray, List.set_cons_zero, List.set_cons_succ]
              refine take_at (i := 17) (some 64) (v := ?_) rfl rfl (by kernel_rfl) (by kernel_rfl) (by kernel_rfl) (fun _ _ _ h => h) (Or.inl ⟨by rfl, ?_⟩) (by assumption) ?_
              rotate_left
              · (intro wx hSw; go_simp; try (with_reducible rfl))
              try simp only [Act.put, List.setIfInBounds_toArray, List.set_cons_zero, List.set_cons_succ]
              refine wpAnyH_ready (rs := [13]) (by kernel_rfl) (by simp) ?_
              refine AllReadyH.cons rfl (fun K hK => ?_) AllReadyH.nil
              go_simp
              refine (Safe_in (by assumption)).mono ?_
              rintro e w7 ⟨rfl, rfl⟩
              go_wp2_with fail
              refine hK.out _ _ ?_ (fun hHeld => ?_)
              · (assumption)
              clear hK K
              try simp only [Act.put, List.setIfInBounds_toArray, List.set_cons_zero, List.set_cons_succ]
              refine take_at (i := 18) (some 65) (v := ?_) rfl rfl (by kernel_rfl) (by kernel_rfl) (by kernel_rfl) (fun _ _ _ h => h) (Or.inl ⟨by rfl, ?_⟩) (by assumption) ?_
              rotate_left
              · (intro wx hSw; go_simp; try (with_reducible rfl))
              try simp only [Act.put, List.setIfInBounds_toArray, List.set_cons_zero, List.set_cons_succ]
              refine take_at (i := 19) (some 66) (v := ?_) rfl rfl (by kernel_rfl) (by kernel_rfl) (by kernel_rfl) (fun _ _ _ h => h) (Or.inl ⟨by rfl, ?_⟩) (by assumption) ?_
              rotate_left
              · (intro wx hSw; go_simp; try (with_reducible rfl))
              try simp only [Act.put, List.setIfInBounds_toArray, List.set_cons_zero, List.set_cons_succ]
              refine wpAnyH_done (by kernel_rfl) ?_ _
              go_wp2_with fail
              go_meet
              exact ⟨rfl, by assumption⟩
            case rest =>
              obtain ⟨rfl, hd6⟩ := hcut
              have hYn : Y.length ≤ 1000 := by have := HY.out; omega
              have hlcl : Lc.length ≤ 500 := by have := HC4.out; omega
              have hl4 : lost.length = 4 := rfl
              go_wp2_with fail
              refine (Append_in (hd6.alloc _) (Cs.new _ lost _ (4, 5)) (by omega)).mono ?_
              rintro e w11 ⟨rfl, hd11⟩
              go_wp2_with fail
              refine (Swap_in hd11 (hc5.chg hd11.kept (fun _ _ _ hf => hf)) (by omega)).mono ?_
              rintro e w12 ⟨rfl, hd12⟩
              go_wp2_with fail
              have hcr := Crash_in 0 hd12
              rw [show kept Lc.length Lc.length 0 = Lc.length by unfold kept; omega, List.take_length] at hcr
              refine hcr.mono ?_
              rintro e w13 ⟨rfl, hd13⟩
              clear hcr
              go_wp2_with fail
              have hdr2 : DiskIn w w13.drew D Lc Lc.length := hd13.step ((Chg.refl _ _).drew)
              have rc : ∀ wx, DiskIn w wx D Lc Lc.length → (convert 26 9 (.slice C nc q)).run Try.prog wx = .ok (.string (str Lc)) wx := fun wx h =>
                run_string (P := Try.prog) Try.underlying26 Try.underlying5 Try.underlying9 (hc5.chg h.kept (fun _ _ _ hf => hf))
              have hbc : ((Lc.length : Int) == (nc : Int)) = true := by have := HC4.out; simp; omega
              refine wp_region_held_drew (S := fun wx => DiskIn w wx D Lc Lc.length) (by kernel_rfl) hdr2 (fun hHeld => ?_)
              refine take_at (i := 0) (some 76) (v := ?_) rfl rfl (by kernel_rfl) (by kernel_rfl) (by kernel_rfl) (fun _ _ _ h => h) (Or.inl ⟨by rfl, ?_⟩) (by assumption) ?_
              rotate_left
              · (intro wx hSw; go_simp; try (with_reducible rfl))
              try simp only [Act.put, List.setIfInBounds_toArray, List.set_cons_zero, List.set_cons_succ]
              refine take_at (i := 3) (some 79) (v := ?_) rfl rfl (by kernel_rfl) (by kernel_rfl) (by kernel_rfl) (fun _ _ _ h => h) (Or.inl ⟨by rfl, ?_⟩) (by assumption) ?_
              rotate_left
              · (intro wx hSw; go_simp; try (with_reducible rfl))
              try simp only [Act.put, List.setIfInBounds_toArray, List.set_cons_zero, List.set_cons_succ]
              refine take_at (i := 4) (some 80) (v := ?_) rfl rfl (by kernel_rfl) (by kernel_rfl) (by kernel_rfl) (fun _ _ _ h => h) (Or.inl ⟨by rfl, ?_⟩) (by assumption) ?_
              rotate_left
              · (intro wx hSw; go_simp; try (with_reducible rfl))
              try simp only [Act.put, List.setIfInBounds_toArray, List.set_cons_zero, List.set_cons_succ]
              refine wpAnyH_ready (rs := [1]) (by kernel_rfl) (by simp) ?_
              refine AllReadyH.cons rfl (fun K hK => ?_) AllReadyH.nil
              go_simp
              refine (Bytes_in (by assumption)).mono ?_
              rintro e w16 ⟨own, A8, cap8, rfl, hcs, hd16⟩
              have hst := run_string (P := Try.prog) (c := cap8) Try.underlying26 Try.underlying5 Try.underlying9 hcs
              go_wp2_with fail
              refine hK.out _ _ ?_ (fun hHeld => ?_)
              · (assumption)
              clear hK K
              try simp only [Act.put, List.setIfInBounds_toArray, List.set_cons_zero, List.set_cons_succ]
              refine wpAnyH_ready (rs := [2]) (by kernel_rfl) (by simp) ?_
              refine AllReadyH.cons rfl (fun K hK => ?_) AllReadyH.nil
              go_simp
              refine hK.out _ _ ?_ (fun hHeld => ?_)
              · (assumption)
              clear hK K
              try simp only [Act.put, List.setIfInBounds_toArray, List.set_cons_zero, List.set_cons_succ]
              refine take_at (i := 5) (some 81) (v := ?_) rfl rfl (by kernel_rfl) (by kernel_rfl) (by kernel_rfl) (fun _ _ _ h => h) (Or.inl ⟨by rfl, ?_⟩) (by assumption) ?_
              rotate_left
              · (intro wx hSw; go_simp; try (with_reducible rfl))
              try simp only [Act.put, List.setIfInBounds_toArray, List.set_cons_zero, List.set_cons_succ]
              refine take_at (i := 6) (some 82) (v := ?_) rfl rfl (by kernel_rfl) (by kernel_rfl) (by kernel_rfl) (fun _ _ _ h => h) (Or.inl ⟨by rfl, ?_⟩) (by assumption) ?_
              rotate_left
              · (intro wx hSw; go_simp; try (with_reducible rfl))
              try simp only [Act.put, List.setIfInBounds_toArray, List.set_cons_zero, List.set_cons_succ]
              refine take_at (i := 7) (some 83) (v := ?_) rfl rfl (by kernel_rfl) (by kernel_rfl) (by kernel_rfl) (fun _ _ _ h => h) (Or.inl ⟨by rfl, ?_⟩) (by assumption) ?_
              rotate_left
              · (intro wx hSw; go_simp; try (with_reducible rfl))
              try simp only [Act.put, List.setIfInBounds_toArray, List.set_cons_zero, List.set_cons_succ]
              refine take_at (i := 9) (some 85) (v := ?_) rfl rfl (by kernel_rfl) (by kernel_rfl) (by kernel_rfl) (fun _ _ _ h => h) (Or.inl ⟨by rfl, ?_⟩) (by assumption) ?_
              rotate_left
              · (intro wx hSw; go_simp; try (with_reducible rfl))
              try simp only [Act.put, List.setIfInBounds_toArray, List.set_cons_zero, List.set_cons_succ]
              refine take_at (i := 10) (some 86) (v := ?_) rfl rfl (by kernel_rfl) (by kernel_rfl) (by kernel_rfl) (fun _ _ _ h => h) (Or.inl ⟨by rfl, ?_⟩) (by assumption) ?_
              rotate_left
              · (intro wx hSw; go_simp; try (with_reducible rfl))
              try simp only [Act.put, List.setIfInBounds_toArray, List.set_cons_zero, List.set_cons_succ]
              refine wpAnyH_ready (rs := [8]) (by kernel_rfl) (by simp) ?_
              refine AllReadyH.cons rfl (fun K hK => ?_) AllReadyH.nil
              go_simp
              refine (Safe_in (by assumption)).mono ?_
              rintro e w17 ⟨rfl, rfl⟩
              go_wp2_with fail
              refine hK.out _ _ ?_ (fun hHeld => ?_)
              · (assumption)
              clear hK K
              try simp only [Act.put, List.setIfInBounds_toArray, List.set_cons_zero, List.set_cons_succ]
              refine take_at (i := 11) (some 87) (v := ?_) rfl rfl (by kernel_rfl) (by kernel_rfl) (by kernel_rfl) (fun _ _ _ h => h) (Or.inl ⟨by rfl, ?_⟩) (by assumption) ?_
              rotate_left
              · (intro wx hSw; go_simp; try (with_reducible rfl))
              try simp only [Act.put, List.setIfInBounds_toArray, List.set_cons_zero, List.set_cons_succ]
              refine take_at (i := 12) (some 88) (v := ?_) rfl rfl (by kernel_rfl) (by kernel_rfl) (by kernel_rfl) (fun _ _ _ h => h) (Or.inl ⟨by rfl, ?_⟩) (by assumption) ?_
              rotate_left
              · (intro wx hSw; go_simp; try (with_reducible rfl))
              try simp only [Act.put, List.setIfInBounds_toArray, List.set_cons_zero, List.set_cons_succ]
              refine take_at (i := 13) (some 89) (v := ?_) rfl rfl (by kernel_rfl) (by kernel_rfl) (by kernel_rfl) (fun _ _ _ h => h) (Or.inl ⟨by rfl, ?_⟩) (by assumption) ?_
              rotate_left
              · (intro wx hSw; go_simp; try (with_reducible rfl))
              try simp only [Act.put, List.setIfInBounds_toArray, List.set_cons_zero, List.set_cons_succ]
              refine wpAnyH_ready (rs := [14]) (by kernel_rfl) (by simp) ?_
              refine AllReadyH.cons rfl (fun K hK => ?_) AllReadyH.nil
              go_simp
              refine (known20 _).mono ?_
              rintro e w18 ⟨rfl, hk18⟩
              have hd18 := DiskIn.step (by assumption) hk18
              go_wp2_with fail
              refine hK.out _ _ ?_ (fun hHeld => ?_)
              · (assumption)
              clear hK K
              try simp only [Act.put, List.setIfInBounds_toArray, List.set_cons_zero, List.set_cons_succ]
              refine take_at (i := 15) (some 91) (v := ?_) rfl rfl (by kernel_rfl) (by kernel_rfl) (by kernel_rfl) (fun _ _ _ h => h) (Or.inl ⟨by rfl, ?_⟩) (by assumption) ?_
              rotate_left
              · (intro wx hSw; go_simp; try (with_reducible rfl))
              try simp only [Act.put, List.setIfInBounds_toArray, List.set_cons_zero, List.set_cons_succ]
              refine take_at (i := 16) (some 8) (v := ?_) rfl rfl (by kernel_rfl) (by kernel_rfl) (by kernel_rfl) (fun _ _ _ h => h) (Or.inl ⟨by rfl, ?_⟩) (by assumption) ?_
              rotate_left
              · (intro wx hSw; go_simp; try (with_reducible rfl))
              try simp only [Act.put, List.setIfInBounds_toArray, List.set_cons_zero, List.set_cons_succ]
              refine wpAnyH_done (by kernel_rfl) ?_ _
              go_wp2_with fail
              go_ret
              exact ⟨rfl, DiskIn.kept (by assumption)⟩
end Go.Proofs.Ytnehkheojgmocaa
