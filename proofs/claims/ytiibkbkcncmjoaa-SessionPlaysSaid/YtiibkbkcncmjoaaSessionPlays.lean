/-
  SessionPlays: requests are told as the document says, for any calls; saved and loaded the table goes on as it was: the walk through the law.
-/
import Derived.Test.YtiibkbkcncmjoaaKnown17
import Derived.Test.YtiibkbkcncmjoaaTame
import Derived.Test.YtiibkbkcncmjoaaSAsks
import Derived.Test.YtiibkbkcncmjoaaRefTable
import Derived.Deep.CutBlock
namespace Go.Proofs.Ytiibkbkcncmjoaa
open Go.RowKit
set_option linter.unusedVariables false
set_option linter.unusedSimpArgs false

theorem slast_in {f : Nat → SRec} {k : Nat} (h : k < 16) : slast f (k : Int) = (f k).q := by
  unfold slast
  rw [if_neg (by omega), Int.toNat_natCast]
theorem rseq_zero : (rseq (fun _ => SRec.zero) 16 ++ rrep (fun _ => SRec.zero) 16).toArray = #[.int .i64 0, .int .i64 0, .int .i64 0, .int .i64 0, .int .i64 0, .int .i64 0, .int .i64 0, .int .i64 0, .int .i64 0, .int .i64 0, .int .i64 0, .int .i64 0, .int .i64 0, .int .i64 0, .int .i64 0, .int .i64 0,
  .int .i64 0, .int .i64 0, .string ⟨#[]⟩, .int .i64 0, .int .i64 0, .string ⟨#[]⟩, .int .i64 0, .int .i64 0, .string ⟨#[]⟩, .int .i64 0, .int .i64 0, .string ⟨#[]⟩, .int .i64 0, .int .i64 0, .string ⟨#[]⟩, .int .i64 0, .int .i64 0, .string ⟨#[]⟩, .int .i64 0, .int .i64 0, .string ⟨#[]⟩, .int .i64 0, .int .i64 0, .string ⟨#[]⟩,
  .int .i64 0, .int .i64 0, .string ⟨#[]⟩, .int .i64 0, .int .i64 0, .string ⟨#[]⟩, .int .i64 0, .int .i64 0, .string ⟨#[]⟩, .int .i64 0, .int .i64 0, .string ⟨#[]⟩, .int .i64 0, .int .i64 0, .string ⟨#[]⟩, .int .i64 0, .int .i64 0, .string ⟨#[]⟩, .int .i64 0, .int .i64 0, .string ⟨#[]⟩, .int .i64 0, .int .i64 0, .string ⟨#[]⟩] := rfl

theorem rbox_new (w : World) {W : Nat} (h : w.heap.size = W) : RTblAt (w.alloc (.cells #[.int .i64 0, .int .i64 0, .int .i64 0, .int .i64 0, .int .i64 0, .int .i64 0, .int .i64 0, .int .i64 0, .int .i64 0, .int .i64 0, .int .i64 0, .int .i64 0, .int .i64 0, .int .i64 0, .int .i64 0, .int .i64 0, .int .i64 0, .int .i64 0, .string ⟨#[]⟩, .int .i64 0, .int .i64 0, .string ⟨#[]⟩, .int .i64 0, .int .i64 0, .string ⟨#[]⟩, .int .i64 0, .int .i64 0, .string ⟨#[]⟩, .int .i64 0, .int .i64 0, .string ⟨#[]⟩, .int .i64 0, .int .i64 0, .string ⟨#[]⟩, .int .i64 0, .int .i64 0, .string ⟨#[]⟩, .int .i64 0, .int .i64 0, .string ⟨#[]⟩, .int .i64 0, .int .i64 0, .string ⟨#[]⟩, .int .i64 0, .int .i64 0, .string ⟨#[]⟩, .int .i64 0, .int .i64 0, .string ⟨#[]⟩, .int .i64 0, .int .i64 0, .string ⟨#[]⟩, .int .i64 0, .int .i64 0, .string ⟨#[]⟩, .int .i64 0, .int .i64 0, .string ⟨#[]⟩, .int .i64 0, .int .i64 0, .string ⟨#[]⟩, .int .i64 0, .int .i64 0, .string ⟨#[]⟩] 72)) W (fun _ => SRec.zero) := by
  subst h
  unfold RTblAt
  rw [rseq_zero]
  exact heap_alloc_new w _

set_option maxRecDepth 100000 in
set_option maxHeartbeats 8000000 in
theorem splays_walk {w : World} {A1 : Option Addr} {n1 c1 : Nat} (hp : SAsksArg w A1 n1 c1) :
    Calls Try.prog 11 #[.slice A1 n1 c1] w (Holds1 w) := by
  have hrep := rep_def
  obtain ⟨hnc1, hcm1, hall⟩ := hp
  have HALL := Lib.hid hall
  clear hall
  go_enter Try.func11, Try.ntmps11
  go_wp2_with fail
  refine (Tbl_new w).mono ?_
  rintro e w1 ⟨rfl, ht1, hc1⟩
  obtain ⟨T, hT⟩ : ∃ T, w.heap.size = T := ⟨_, rfl⟩
  rw [hT] at ht1 ⊢
  have HT := Lib.hid hT
  have a1 : Chg (fun k => T ≤ k) w w1 := hc1.wide
  clear hT hc1
  go_wp2_with fail
  obtain ⟨W, hW⟩ : ∃ W, w1.heap.size = W := ⟨_, rfl⟩
  have hTW : T < W := by have := ht1.lt; omega
  have hr1 := rbox_new w1 hW
  rw [hW]
  clear hW
  go_loopw [3, 5] (fun tp i wr => ∃ (I D : Nat) (f : Nat → SRec), I ≤ n1 ∧ I ≤ 100 ∧ i = .int .i64 I ∧ tp = .pointer (some ⟨D, 0, none⟩) ∧ STame f ∧ TblAt wr D f ∧ RTblAt wr W f ∧ T ≤ D ∧ ¬ D = W ∧ Chg (fun k => T ≤ k) w wr) (fun _ i _ => n1 - (intOf i).toNat)
  case atStart => exact ⟨0, T, _, Nat.zero_le _, Nat.zero_le _, rfl, rfl, tame_zero, ht1.keep ((Chg.refl _ w1).alloc _), hr1, Nat.le_refl _, by omega, a1.alloc _⟩
  case round =>
    clear ht1 hr1 a1
    obtain ⟨I, D, f, hI1, hI2, rfl, rfl, hf, ht, hr, hD1, hD2, a⟩ := hrel
    by_cases hrun : I < n1 ∧ I < 100
    · obtain ⟨hlt, h10⟩ := hrun
      obtain ⟨b, off, rfl, hbw, hat⟩ := HALL.out (by omega)
      obtain ⟨k, cl, q, y, aa, z, ⟨q0, q1, q2, q3, q4, q5⟩, bk, bc, bq, by_, ba, bz⟩ := hat I hlt
      have hbT : ¬ T ≤ b := by have := HT.out; omega
      have q0 := a.cell q0 hbT
      have q1 := a.cell q1 hbT
      have q2 := a.cell q2 hbT
      have q3 := a.cell q3 hbT
      have q4 := a.cell q4 hbT
      have q5 := a.cell q5 hbT
      clear hat
      have hIn : (I : Int) < (n1 : Int) := by omega
      go_upto_if 37 with fail
      generalize hX : wr.heap.size = X
      have hXb : wr.heap.size = X := hX
      clear hX
      have hX0 := heap_alloc_new wr (.cells #[.int .i64 k, .int .i64 cl, .int .i64 q, .int .i64 y, .int .i64 aa, .string z] 74)
      rw [hXb] at hX0
      have hDX : ¬ D = X ∧ ¬ X = D := by have := ht.lt; omega
      have hWX : ¬ W = X ∧ ¬ X = W := by have := hr.lt; omega
      have hTX : T ≤ X := by have := ht.lt; omega
      obtain ⟨w0, rfl⟩ : ∃ x : World, x = wr := ⟨_, rfl⟩
      have hc0 : Chg (fun _ => False) w0 (w0.alloc (.cells #[.int .i64 k, .int .i64 cl, .int .i64 q, .int .i64 y, .int .i64 aa, .string z] 74)) := (Chg.refl _ w0).alloc _
      generalize w0.alloc (.cells #[.int .i64 k, .int .i64 cl, .int .i64 q, .int .i64 y, .int .i64 aa, .string z] 74) = wy at hX0 hc0 ⊢
      go_cut [5] (fun v wx => ∃ z' : ByteArray, v = .int .i64 I ∧ wx.heap[X]? = some (.cells #[.int .i64 k, .int .i64 cl, .int .i64 q, .int .i64 y, .int .i64 aa, .string z'] 74 (0, 0)) ∧ z'.size ≤ 100 ∧ Chg (fun i => i = X) wy wx)
      case first =>
        have x5 : wy.cell? ⟨X, 5, none⟩ = some (.string z) := by simp only [World.cell?]; rw [hX0]; rfl
        have xf : wy.frozen? ⟨X, 5, none⟩ = false := by simp only [World.frozen?]; rw [hX0]; simp
        by_cases hz : 100 < z.size
        · have hz' : (100 : Int) < (z.size : Int) := by omega
          have hz2 : ¬ (z.size : Int) < (100 : Int) := by omega
          have hz3 : (100 : Int) ≤ (z.size : Int) := by omega
          have hz4 : 100 ≤ z.size := by omega
          go_wp2_with fail
          go_meet
          refine ⟨z.extract 0 100, rfl, heap_setCell_same _ X 5 _ _ (.string (z.extract 0 100)) hX0, by simp; omega, (Chg.refl (fun i => i = X) wy).setIn rfl _ _⟩
        · have hz' : ¬ (100 : Int) < (z.size : Int) := by omega
          go_wp2_with fail
          go_meet
          exact ⟨z, rfl, hX0, by omega, Chg.refl _ _⟩
      case rest =>
        obtain ⟨z', rfl, hX1, hz100, hcx⟩ := hcut
        obtain ⟨w2, rfl⟩ : ∃ x : World, x = wc := ⟨_, rfl⟩
        have x0 : w2.cell? ⟨X, 0, none⟩ = some (.int .i64 k) := by simp only [World.cell?]; rw [hX1]; rfl
        have x1 : w2.cell? ⟨X, 1, none⟩ = some (.int .i64 cl) := by simp only [World.cell?]; rw [hX1]; rfl
        have x2 : w2.cell? ⟨X, 2, none⟩ = some (.int .i64 q) := by simp only [World.cell?]; rw [hX1]; rfl
        have x3 : w2.cell? ⟨X, 3, none⟩ = some (.int .i64 y) := by simp only [World.cell?]; rw [hX1]; rfl
        have x4 : w2.cell? ⟨X, 4, none⟩ = some (.int .i64 aa) := by simp only [World.cell?]; rw [hX1]; rfl
        have x5 : w2.cell? ⟨X, 5, none⟩ = some (.string z') := by simp only [World.cell?]; rw [hX1]; rfl
        have ht := (ht.keep hc0).chg hcx hDX.1
        have hr := (hr.keep hc0).chg hcx hWX.1
        have a := (a.trans hc0 (fun _ _ h => h.elim)).trans hcx (fun _ _ h => by omega)
        have hXlt := lt_of_block hX1
        clear hX0 hX1 hc0 hcx
        have hcase : k = 1 ∨ k = 2 ∨ (¬ k = 1 ∧ ¬ k = 2) := by omega
        rcases hcase with rfl | rfl | ⟨hk1, hk2⟩
        · obtain ⟨r, hs⟩ : ∃ r, sans f cl q = r := ⟨_, rfl⟩
          obtain ⟨m, hm⟩ : ∃ m, show_ f cl q = m := ⟨_, rfl⟩
          have hmb : (m != m) = false := by simp
          have hyb : (r.y != r.y) = false := by simp
          have hab : (r.a != r.a) = false := by simp
          have A1 : ∀ (wx : World), TblAt wx D f → Calls Try.prog 41 #[.pointer (some ⟨D, 0, none⟩), .int .i64 cl, .int .i64 q] wx fun e w' => e = .returned (.tuple #[.int .i64 m, .agg #[.int .i64 r.y, .int .i64 r.a, .string r.z]]) ∧ Chg (fun _ => False) wx w' := fun wx h => by
            have h1 := Ask_calls h bc bq
            rw [hm, hs] at h1
            exact h1
          have A2 : ∀ (wx : World), RTblAt wx W f → Calls Try.prog 47 #[.pointer (some ⟨W, 0, none⟩), .int .i64 cl, .int .i64 q] wx fun e w' => e = .returned (.tuple #[.int .i64 m, .agg #[.int .i64 r.y, .int .i64 r.a, .string r.z]]) ∧ Chg (fun _ => False) wx w' := fun wx h => by
            have h1 := RAsk_calls h bc bq
            rw [hm, hs] at h1
            exact h1
          have A1 := Lib.hid A1
          have A2 := Lib.hid A2
          clear hm hs
          go_wp2_with fail
          refine (A1.out _ ht).mono ?_
          rintro e w3 ⟨rfl, k3⟩
          have hr := (hr.keep k3).keep ((Chg.refl _ w3).alloc (.cells #[.int .i64 r.y, .int .i64 r.a, .string r.z] 60))
          have ht := (ht.keep k3).keep ((Chg.refl _ w3).alloc (.cells #[.int .i64 r.y, .int .i64 r.a, .string r.z] 60))
          have a := (a.trans k3 (fun _ _ h => h.elim)).alloc (.cells #[.int .i64 r.y, .int .i64 r.a, .string r.z] 60)
          have kX := k3.alloc (.cells #[.int .i64 r.y, .int .i64 r.a, .string r.z] 60)
          have x1 := kX.cell x1 (fun h => h)
          have x2 := kX.cell x2 (fun h => h)
          have hY0 := heap_alloc_new w3 (.cells #[.int .i64 r.y, .int .i64 r.a, .string r.z] 60)
          go_wp2_with fail
          obtain ⟨Y, hY⟩ : ∃ Y, w3.heap.size = Y := ⟨_, rfl⟩
          rw [hY] at hY0 ⊢
          clear hY
          generalize w3.alloc (.cells #[.int .i64 r.y, .int .i64 r.a, .string r.z] 60) = w4 at hY0 ht hr a x1 x2 ⊢
          refine (A2.out _ hr).mono ?_
          rintro e w5 ⟨rfl, k5⟩
          have hY1 := (k5.alloc (.cells #[.int .i64 r.y, .int .i64 r.a, .string r.z] 60)).heap hY0 (fun h => h)
          have hr := (hr.keep k5).keep ((Chg.refl _ w5).alloc (.cells #[.int .i64 r.y, .int .i64 r.a, .string r.z] 60))
          have ht := (ht.keep k5).keep ((Chg.refl _ w5).alloc (.cells #[.int .i64 r.y, .int .i64 r.a, .string r.z] 60))
          have a := (a.trans k5 (fun _ _ h => h.elim)).alloc (.cells #[.int .i64 r.y, .int .i64 r.a, .string r.z] 60)
          have y0 : (w5.alloc (.cells #[.int .i64 r.y, .int .i64 r.a, .string r.z] 60)).cell? ⟨Y, 0, none⟩ = some (.int .i64 r.y) := by simp only [World.cell?]; rw [hY1]; rfl
          have y1 : (w5.alloc (.cells #[.int .i64 r.y, .int .i64 r.a, .string r.z] 60)).cell? ⟨Y, 1, none⟩ = some (.int .i64 r.a) := by simp only [World.cell?]; rw [hY1]; rfl
          have y2 : (w5.alloc (.cells #[.int .i64 r.y, .int .i64 r.a, .string r.z] 60)).cell? ⟨Y, 2, none⟩ = some (.string r.z) := by simp only [World.cell?]; rw [hY1]; rfl
          clear hY0 hY1 k3 k5 kX x1 x2
          go_wp2_with fail
          generalize w5.alloc (.cells #[.int .i64 r.y, .int .i64 r.a, .string r.z] 60) = w6 at ht hr a ⊢
          go_loopw [13] (fun i wr => ∃ J : Nat, J ≤ 16 ∧ i = .int .i64 J ∧ Chg (fun _ => False) w6 wr) (fun i _ => 16 - (intOf i).toNat)
          case atStart => exact ⟨0, by omega, rfl, Chg.refl _ _⟩
          case round =>
            obtain ⟨J, hK, rfl, cK⟩ := hrel
            have ht := ht.keep cK
            have hr := hr.keep cK
            have a := a.trans cK (fun _ _ h => h.elim)
            by_cases hK16 : J < 16
            · obtain ⟨⟨hq, -, -, -⟩, -⟩ := hr.rec hK16
              have hL : ∀ wx : World, TblAt wx D f → Calls Try.prog 45 #[.pointer (some ⟨D, 0, none⟩), .int .i64 (J : Int)] wx fun e w' => e = .returned (.int .i64 (f J).q) ∧ ∃ q, w' = wx.drewN q := fun wx h => by
                have h1 := Last_calls (c := (J : Int)) h (by omega)
                rw [slast_in hK16] at h1
                exact h1
              have HL := Lib.hid hL
              clear hL
              generalize (f J).q = v at hq HL
              have hvb : (v != v) = false := by simp
              have hk16 : (J : Int) < 16 := by omega
              have hk0 : ¬ (J : Int) < 0 := by omega
              have hk1 : ¬ (16 : Int) ≤ (J : Int) := by omega
              go_wp2_with fail
              refine wp_region_held_drew (S := fun wx => wx.cell? ⟨W, J, none⟩ = some (.int .i64 v)) (by kernel_rfl) hq (fun hHeld => ?_)
              refine take_at (i := 0) (some 110) (v := ?_) rfl rfl (by kernel_rfl) (by kernel_rfl) (by kernel_rfl) (fun _ _ _ h => h) (Or.inl ⟨by rfl, ?_⟩) (by assumption) ?_
              rotate_left
              · (intro wx hSw; go_simp; try (with_reducible rfl))
              try simp only [Act.put, List.setIfInBounds_toArray, List.set_cons_zero, List.set_cons_succ]
              refine take_at (i := 1) (some 111) (v := ?_) rfl rfl (by kernel_rfl) (by kernel_rfl) (by kernel_rfl) (fun _ _ _ h => h) (Or.inl ⟨by rfl, ?_⟩) (by assumption) ?_
              rotate_left
              · (intro wx hSw; go_simp; try (with_reducible rfl))
              try simp only [Act.put, List.setIfInBounds_toArray, List.set_cons_zero, List.set_cons_succ]
              refine take_at (i := 3) (some 113) (v := ?_) rfl rfl (by kernel_rfl) (by kernel_rfl) (by kernel_rfl) (fun _ _ _ h => h) (Or.inl ⟨by rfl, ?_⟩) (by assumption) ?_
              rotate_left
              · (intro wx hSw; go_simp; try (with_reducible rfl))
              try simp only [Act.put, List.setIfInBounds_toArray, List.set_cons_zero, List.set_cons_succ]
              refine take_at (i := 4) (some 114) (v := ?_) rfl rfl (by kernel_rfl) (by kernel_rfl) (by kernel_rfl) (fun _ _ _ h => h) (Or.inl ⟨by rfl, ?_⟩) (by assumption) ?_
              rotate_left
              · (intro wx hSw; go_simp; try (with_reducible rfl))
              try simp only [Act.put, List.setIfInBounds_toArray, List.set_cons_zero, List.set_cons_succ]
              refine take_at (i := 5) (some 115) (v := ?_) rfl rfl (by kernel_rfl) (by kernel_rfl) (by kernel_rfl) (fun _ _ _ h => h) (Or.inl ⟨by rfl, ?_⟩) (by assumption) ?_
              rotate_left
              · (intro wx hSw; go_simp; try (with_reducible rfl))
              try simp only [Act.put, List.setIfInBounds_toArray, List.set_cons_zero, List.set_cons_succ]
              refine take_at (i := 6) (some 116) (v := ?_) rfl rfl (by kernel_rfl) (by kernel_rfl) (by kernel_rfl) (fun _ _ _ h => h) (Or.inl ⟨by rfl, ?_⟩) (by assumption) ?_
              rotate_left
              · (intro wx hSw; go_simp; try (with_reducible rfl))
              try simp only [Act.put, List.setIfInBounds_toArray, List.set_cons_zero, List.set_cons_succ]
              refine take_at (i := 7) (some 117) (v := ?_) rfl rfl (by kernel_rfl) (by kernel_rfl) (by kernel_rfl) (fun _ _ _ h => h) (Or.inl ⟨by rfl, ?_⟩) (by assumption) ?_
              rotate_left
              · (intro wx hSw; go_simp; try (with_reducible rfl))
              try simp only [Act.put, List.setIfInBounds_toArray, List.set_cons_zero, List.set_cons_succ]
              refine take_at (i := 8) (some 118) (v := ?_) rfl rfl (by kernel_rfl) (by kernel_rfl) (by kernel_rfl) (fun _ _ _ h => h) (Or.inl ⟨by rfl, ?_⟩) (by assumption) ?_
              rotate_left
              · (intro wx hSw; go_simp; try (with_reducible rfl))
              try simp only [Act.put, List.setIfInBounds_toArray, List.set_cons_zero, List.set_cons_succ]
              refine wpAnyH_ready (rs := [2]) (by kernel_rfl) (by simp) ?_
              refine AllReadyH.cons rfl (fun K hK => ?_) AllReadyH.nil
              go_simp
              refine (HL.out _ (ht.keep ((Chg.refl _ wr).drew))).mono ?_
              rintro e w8 ⟨rfl, q7, rfl⟩
              have hq8 := ((Chg.refl (fun _ => False) (wr.drew)).drewN q7).cell (p := ⟨W, J, none⟩) hq (fun h => h)
              go_wp2_with fail
              refine hK.out _ _ ?_ (fun hHeld => ?_)
              · (exact hq8)
              clear hK K
              try simp only [Act.put, List.setIfInBounds_toArray, List.set_cons_zero, List.set_cons_succ]
              refine take_at (i := 9) (some 119) (v := ?_) rfl rfl (by kernel_rfl) (by kernel_rfl) (by kernel_rfl) (fun _ _ _ h => h) (Or.inl ⟨by rfl, ?_⟩) (by assumption) ?_
              rotate_left
              · (intro wx hSw; go_simp; try (with_reducible rfl))
              try simp only [Act.put, List.setIfInBounds_toArray, List.set_cons_zero, List.set_cons_succ]
              refine wpAnyH_done (by kernel_rfl) ?_ _
              go_wp2_with fail
              go_roundw
              case rel => exact ⟨J + 1, by omega, by go_num, cK.drewN _⟩
              case measure => simp [intOf]; omega
            · have hk16 : ¬ (J : Int) < 16 := by omega
              go_wp2_with fail
              go_roundw
              case rel => exact ⟨I + 1, D, f, by omega, by omega, by go_num, rfl, hf, ht, hr, by omega, by omega, a⟩
              case measure => simp [intOf]; omega
        · have hy7 : (sdoneWhy f cl q != sdoneWhy f cl q) = false := by simp
          go_wp2_with fail
          refine wp_region_held_drew (S := fun wx => wx.cell? ⟨X, 1, none⟩ = some (.int .i64 cl) ∧ wx.cell? ⟨X, 2, none⟩ = some (.int .i64 q) ∧ wx.cell? ⟨X, 3, none⟩ = some (.int .i64 y) ∧ wx.cell? ⟨X, 4, none⟩ = some (.int .i64 aa) ∧ wx.cell? ⟨X, 5, none⟩ = some (.string z')) (by kernel_rfl) ⟨x1, x2, x3, x4, x5⟩ (fun hHeld => ?_)
          refine take_at (i := 0) (some 89) (v := ?_) rfl rfl (by kernel_rfl) (by kernel_rfl) (by kernel_rfl) (fun _ _ _ h => h) (Or.inl ⟨by rfl, ?_⟩) (by assumption) ?_
          rotate_left
          · (intro wx hSw; go_simp; try (with_reducible rfl))
          try simp only [Act.put, List.setIfInBounds_toArray, List.set_cons_zero, List.set_cons_succ]
          refine take_at (i := 1) (some 90) (v := ?_) rfl rfl (by kernel_rfl) (by kernel_rfl) (by kernel_rfl) (fun _ _ _ h => h) (Or.inl ⟨by rfl, ?_⟩) (by assumption) ?_
          rotate_left
          · (intro wx hSw; go_simp; try (with_reducible rfl))
          try simp only [Act.put, List.setIfInBounds_toArray, List.set_cons_zero, List.set_cons_succ]
          refine take_at (i := 2) (some 91) (v := ?_) rfl rfl (by kernel_rfl) (by kernel_rfl) (by kernel_rfl) (fun _ _ _ h => h) (Or.inl ⟨by rfl, ?_⟩) (by assumption) ?_
          rotate_left
          · (intro wx hSw; go_simp; try (with_reducible rfl))
          try simp only [Act.put, List.setIfInBounds_toArray, List.set_cons_zero, List.set_cons_succ]
          refine take_at (i := 3) (some 92) (v := ?_) rfl rfl (by kernel_rfl) (by kernel_rfl) (by kernel_rfl) (fun _ _ _ h => h) (Or.inl ⟨by rfl, ?_⟩) (by assumption) ?_
          rotate_left
          · (intro wx hSw; go_simp; try (with_reducible rfl))
          try simp only [Act.put, List.setIfInBounds_toArray, List.set_cons_zero, List.set_cons_succ]
          refine take_at (i := 4) (some 93) (v := ?_) rfl rfl (by kernel_rfl) (by kernel_rfl) (by kernel_rfl) (fun _ _ _ h => h) (Or.inl ⟨by rfl, ?_⟩) (by assumption) ?_
          rotate_left
          · (intro wx hSw; go_simp; try (with_reducible rfl))
          try simp only [Act.put, List.setIfInBounds_toArray, List.set_cons_zero, List.set_cons_succ]
          refine take_at (i := 5) (some 94) (v := ?_) rfl rfl (by kernel_rfl) (by kernel_rfl) (by kernel_rfl) (fun _ _ _ h => h) (Or.inl ⟨by rfl, ?_⟩) (by assumption) ?_
          rotate_left
          · (intro wx hSw; go_simp; try (with_reducible rfl))
          try simp only [Act.put, List.setIfInBounds_toArray, List.set_cons_zero, List.set_cons_succ]
          refine take_at (i := 6) (some 95) (v := ?_) rfl rfl (by kernel_rfl) (by kernel_rfl) (by kernel_rfl) (fun _ _ _ h => h) (Or.inl ⟨by rfl, ?_⟩) (by assumption) ?_
          rotate_left
          · (intro wx hSw; go_simp; try (with_reducible rfl))
          try simp only [Act.put, List.setIfInBounds_toArray, List.set_cons_zero, List.set_cons_succ]
          refine take_at (i := 8) (some 97) (v := ?_) rfl rfl (by kernel_rfl) (by kernel_rfl) (by kernel_rfl) (fun _ _ _ h => h) (Or.inl ⟨by rfl, ?_⟩) (by assumption) ?_
          rotate_left
          · (intro wx hSw; go_simp; try (with_reducible rfl))
          try simp only [Act.put, List.setIfInBounds_toArray, List.set_cons_zero, List.set_cons_succ]
          refine take_at (i := 9) (some 98) (v := ?_) rfl rfl (by kernel_rfl) (by kernel_rfl) (by kernel_rfl) (fun _ _ _ h => h) (Or.inl ⟨by rfl, ?_⟩) (by assumption) ?_
          rotate_left
          · (intro wx hSw; go_simp; try (with_reducible rfl))
          try simp only [Act.put, List.setIfInBounds_toArray, List.set_cons_zero, List.set_cons_succ]
          refine take_at (i := 10) (some 99) (v := ?_) rfl rfl (by kernel_rfl) (by kernel_rfl) (by kernel_rfl) (fun _ _ _ h => h) (Or.inl ⟨by rfl, ?_⟩) (by assumption) ?_
          rotate_left
          · (intro wx hSw; go_simp; try (with_reducible rfl))
          try simp only [Act.put, List.setIfInBounds_toArray, List.set_cons_zero, List.set_cons_succ]
          refine take_at (i := 11) (some 100) (v := ?_) rfl rfl (by kernel_rfl) (by kernel_rfl) (by kernel_rfl) (fun _ _ _ h => h) (Or.inl ⟨by rfl, ?_⟩) (by assumption) ?_
          rotate_left
          · (intro wx hSw; go_simp; try (with_reducible rfl))
          try simp only [Act.put, List.setIfInBounds_toArray, List.set_cons_zero, List.set_cons_succ]
          refine take_at (i := 12) (some 101) (v := ?_) rfl rfl (by kernel_rfl) (by kernel_rfl) (by kernel_rfl) (fun _ _ _ h => h) (Or.inl ⟨by rfl, ?_⟩) (by assumption) ?_
          rotate_left
          · (intro wx hSw; go_simp; try (with_reducible rfl))
          try simp only [Act.put, List.setIfInBounds_toArray, List.set_cons_zero, List.set_cons_succ]
          refine take_at (i := 13) (some 102) (v := ?_) rfl rfl (by kernel_rfl) (by kernel_rfl) (by kernel_rfl) (fun _ _ _ h => h) (Or.inl ⟨by rfl, ?_⟩) (by assumption) ?_
          rotate_left
          · (intro wx hSw; go_simp; try (with_reducible rfl))
          try simp only [Act.put, List.setIfInBounds_toArray, List.set_cons_zero, List.set_cons_succ]
          refine take_at (i := 14) (some 103) (v := ?_) rfl rfl (by kernel_rfl) (by kernel_rfl) (by kernel_rfl) (fun _ _ _ h => h) (Or.inl ⟨by rfl, ?_⟩) (by assumption) ?_
          rotate_left
          · (intro wx hSw; go_simp; try (with_reducible rfl))
          try simp only [Act.put, List.setIfInBounds_toArray, List.set_cons_zero, List.set_cons_succ]
          refine wpAnyH_ready (rs := [7]) (by kernel_rfl) (by simp) ?_
          refine AllReadyH.cons rfl (fun K hK => ?_) AllReadyH.nil
          go_simp
          refine (SDone_calls (c := cl) (q := q) (y := y) (a := aa) (z := z') (ht.keep ((Chg.refl _ w2).drew)) bc bq).mono ?_
          rintro e w7 ⟨rfl, ht2, hc2⟩
          have hr0 := (hr.keep ((Chg.refl _ w2).drew)).chg hc2 (fun h => hD2 h.symm)
          have a8 := (a.drew).trans hc2 (fun i _ h => by omega)
          have x1x := hc2.cell (p := ⟨X, 1, none⟩) x1 (fun h => hDX.2 h)
          have x2x := hc2.cell (p := ⟨X, 2, none⟩) x2 (fun h => hDX.2 h)
          have x3x := hc2.cell (p := ⟨X, 3, none⟩) x3 (fun h => hDX.2 h)
          have x4x := hc2.cell (p := ⟨X, 4, none⟩) x4 (fun h => hDX.2 h)
          have x5x := hc2.cell (p := ⟨X, 5, none⟩) x5 (fun h => hDX.2 h)
          go_wp2_with fail
          refine hK.out _ _ ?_ (fun hHeld => ?_)
          · (first | exact ⟨x1y, x2y, x3y, x4y, x5y⟩ | exact ⟨x1x, x2x, x3x, x4x, x5x⟩)
          clear hK K
          try simp only [Act.put, List.setIfInBounds_toArray, List.set_cons_zero, List.set_cons_succ]
          refine wpAnyH_ready (rs := [15]) (by kernel_rfl) (by simp) ?_
          refine AllReadyH.cons rfl (fun K hK => ?_) AllReadyH.nil
          go_simp
          refine (RDone_calls (c := cl) (q := q) (y' := y) (a' := aa) (z' := z') hr0 bc bq).mono ?_
          rintro e w3 ⟨rfl, hr, hc3⟩
          have ht := ht2.chg hc3 hD2
          have a9 := a8.trans hc3 (fun i _ h => by omega)
          have x1y := hc3.cell (p := ⟨X, 1, none⟩) x1x (fun h => hWX.2 h)
          have x2y := hc3.cell (p := ⟨X, 2, none⟩) x2x (fun h => hWX.2 h)
          have x3y := hc3.cell (p := ⟨X, 3, none⟩) x3x (fun h => hWX.2 h)
          have x4y := hc3.cell (p := ⟨X, 4, none⟩) x4x (fun h => hWX.2 h)
          have x5y := hc3.cell (p := ⟨X, 5, none⟩) x5x (fun h => hWX.2 h)
          go_wp2_with fail
          refine hK.out _ _ ?_ (fun hHeld => ?_)
          · (first | exact ⟨x1y, x2y, x3y, x4y, x5y⟩ | exact ⟨x1x, x2x, x3x, x4x, x5x⟩)
          clear hK K
          try simp only [Act.put, List.setIfInBounds_toArray, List.set_cons_zero, List.set_cons_succ]
          refine take_at (i := 16) (some 105) (v := ?_) rfl rfl (by kernel_rfl) (by kernel_rfl) (by kernel_rfl) (fun _ _ _ h => h) (Or.inl ⟨by rfl, ?_⟩) (by assumption) ?_
          rotate_left
          · (intro wx hSw; go_simp; try (with_reducible rfl))
          try simp only [Act.put, List.setIfInBounds_toArray, List.set_cons_zero, List.set_cons_succ]
          refine wpAnyH_done (by kernel_rfl) ?_ _
          clear hr0 ht2 hc2
          have hf2 := tame_done (c := cl) (q := q) (y := y) (a := aa) (z := z') hf by_ ba hz100
          have a := a9
          generalize sdone f cl q y aa z' = f2 at ht hr hf2
          clear hy7
          go_wp2_with fail
          go_loopw [13] (fun i wr => ∃ J : Nat, J ≤ 16 ∧ i = .int .i64 J ∧ Chg (fun _ => False) w3 wr) (fun i _ => 16 - (intOf i).toNat)
          case atStart => exact ⟨0, by omega, rfl, Chg.refl _ _⟩
          case round =>
            obtain ⟨J, hK, rfl, cK⟩ := hrel
            have ht := ht.keep cK
            have hr := hr.keep cK
            have a := a.trans cK (fun _ _ h => h.elim)
            by_cases hK16 : J < 16
            · obtain ⟨⟨hq, -, -, -⟩, -⟩ := hr.rec hK16
              have hL : ∀ wx : World, TblAt wx D f2 → Calls Try.prog 45 #[.pointer (some ⟨D, 0, none⟩), .int .i64 (J : Int)] wx fun e w' => e = .returned (.int .i64 (f2 J).q) ∧ ∃ q, w' = wx.drewN q := fun wx h => by
                have h1 := Last_calls (c := (J : Int)) h (by omega)
                rw [slast_in hK16] at h1
                exact h1
              have HL := Lib.hid hL
              clear hL
              generalize (f2 J).q = v at hq HL
              have hvb : (v != v) = false := by simp
              have hk16 : (J : Int) < 16 := by omega
              have hk0 : ¬ (J : Int) < 0 := by omega
              have hk1 : ¬ (16 : Int) ≤ (J : Int) := by omega
              go_wp2_with fail
              refine wp_region_held_drew (S := fun wx => wx.cell? ⟨W, J, none⟩ = some (.int .i64 v)) (by kernel_rfl) hq (fun hHeld => ?_)
              refine take_at (i := 0) (some 110) (v := ?_) rfl rfl (by kernel_rfl) (by kernel_rfl) (by kernel_rfl) (fun _ _ _ h => h) (Or.inl ⟨by rfl, ?_⟩) (by assumption) ?_
              rotate_left
              · (intro wx hSw; go_simp; try (with_reducible rfl))
              try simp only [Act.put, List.setIfInBounds_toArray, List.set_cons_zero, List.set_cons_succ]
              refine take_at (i := 1) (some 111) (v := ?_) rfl rfl (by kernel_rfl) (by kernel_rfl) (by kernel_rfl) (fun _ _ _ h => h) (Or.inl ⟨by rfl, ?_⟩) (by assumption) ?_
              rotate_left
              · (intro wx hSw; go_simp; try (with_reducible rfl))
              try simp only [Act.put, List.setIfInBounds_toArray, List.set_cons_zero, List.set_cons_succ]
              refine take_at (i := 3) (some 113) (v := ?_) rfl rfl (by kernel_rfl) (by kernel_rfl) (by kernel_rfl) (fun _ _ _ h => h) (Or.inl ⟨by rfl, ?_⟩) (by assumption) ?_
              rotate_left
              · (intro wx hSw; go_simp; try (with_reducible rfl))
              try simp only [Act.put, List.setIfInBounds_toArray, List.set_cons_zero, List.set_cons_succ]
              refine take_at (i := 4) (some 114) (v := ?_) rfl rfl (by kernel_rfl) (by kernel_rfl) (by kernel_rfl) (fun _ _ _ h => h) (Or.inl ⟨by rfl, ?_⟩) (by assumption) ?_
              rotate_left
              · (intro wx hSw; go_simp; try (with_reducible rfl))
              try simp only [Act.put, List.setIfInBounds_toArray, List.set_cons_zero, List.set_cons_succ]
              refine take_at (i := 5) (some 115) (v := ?_) rfl rfl (by kernel_rfl) (by kernel_rfl) (by kernel_rfl) (fun _ _ _ h => h) (Or.inl ⟨by rfl, ?_⟩) (by assumption) ?_
              rotate_left
              · (intro wx hSw; go_simp; try (with_reducible rfl))
              try simp only [Act.put, List.setIfInBounds_toArray, List.set_cons_zero, List.set_cons_succ]
              refine take_at (i := 6) (some 116) (v := ?_) rfl rfl (by kernel_rfl) (by kernel_rfl) (by kernel_rfl) (fun _ _ _ h => h) (Or.inl ⟨by rfl, ?_⟩) (by assumption) ?_
              rotate_left
              · (intro wx hSw; go_simp; try (with_reducible rfl))
              try simp only [Act.put, List.setIfInBounds_toArray, List.set_cons_zero, List.set_cons_succ]
              refine take_at (i := 7) (some 117) (v := ?_) rfl rfl (by kernel_rfl) (by kernel_rfl) (by kernel_rfl) (fun _ _ _ h => h) (Or.inl ⟨by rfl, ?_⟩) (by assumption) ?_
              rotate_left
              · (intro wx hSw; go_simp; try (with_reducible rfl))
              try simp only [Act.put, List.setIfInBounds_toArray, List.set_cons_zero, List.set_cons_succ]
              refine take_at (i := 8) (some 118) (v := ?_) rfl rfl (by kernel_rfl) (by kernel_rfl) (by kernel_rfl) (fun _ _ _ h => h) (Or.inl ⟨by rfl, ?_⟩) (by assumption) ?_
              rotate_left
              · (intro wx hSw; go_simp; try (with_reducible rfl))
              try simp only [Act.put, List.setIfInBounds_toArray, List.set_cons_zero, List.set_cons_succ]
              refine wpAnyH_ready (rs := [2]) (by kernel_rfl) (by simp) ?_
              refine AllReadyH.cons rfl (fun K hK => ?_) AllReadyH.nil
              go_simp
              refine (HL.out _ (ht.keep ((Chg.refl _ wr).drew))).mono ?_
              rintro e w8 ⟨rfl, q7, rfl⟩
              have hq8 := ((Chg.refl (fun _ => False) (wr.drew)).drewN q7).cell (p := ⟨W, J, none⟩) hq (fun h => h)
              go_wp2_with fail
              refine hK.out _ _ ?_ (fun hHeld => ?_)
              · (exact hq8)
              clear hK K
              try simp only [Act.put, List.setIfInBounds_toArray, List.set_cons_zero, List.set_cons_succ]
              refine take_at (i := 9) (some 119) (v := ?_) rfl rfl (by kernel_rfl) (by kernel_rfl) (by kernel_rfl) (fun _ _ _ h => h) (Or.inl ⟨by rfl, ?_⟩) (by assumption) ?_
              rotate_left
              · (intro wx hSw; go_simp; try (with_reducible rfl))
              try simp only [Act.put, List.setIfInBounds_toArray, List.set_cons_zero, List.set_cons_succ]
              refine wpAnyH_done (by kernel_rfl) ?_ _
              go_wp2_with fail
              go_roundw
              case rel => exact ⟨J + 1, by omega, by go_num, cK.drewN _⟩
              case measure => simp [intOf]; omega
            · have hk16 : ¬ (J : Int) < 16 := by omega
              go_wp2_with fail
              go_roundw
              case rel => exact ⟨I + 1, D, f2, by omega, by omega, by go_num, rfl, hf2, ht, hr, by omega, by omega, a⟩
              case measure => simp [intOf]; omega
        · have hk1b : (k == 1) = false := by simp [hk1]
          have hk2b : (k == 2) = false := by simp [hk2]
          have hsv := tame_save hf
          go_wp2_with fail
          refine (Save_calls ht (by omega)).mono ?_
          rintro e w3 ⟨oS, AS, cS, rfl, hS, hnS, hc3⟩
          have ht3 := ht.keep hc3
          have hr := hr.keep hc3
          have a := a.trans hc3 (fun _ _ h => h.elim)
          have hz2 := ht3.lt
          have hz3 := hr.lt
          have hgood := good_saved (f := f) (fun k _ => (hf k).1) (fun k _ => (hf k).2.1)
          have HG := Lib.hid hgood
          generalize ssave f 16 = L at hS HG hsv ⊢
          clear hgood ht
          go_wp2_with fail
          refine (Load_calls hS.cs (by omega)).mono ?_
          rintro e w4 ⟨hc4, ⟨rfl, hbad⟩ | ⟨U, rfl, hU, htU, -⟩⟩
          · exact absurd HG.out.1 hbad
          have ht := htU.congr (g := f) HG.out.2
          have hr := hr.keep hc4
          have a := a.trans hc4 (fun _ _ h => h.elim)
          have hTU : T ≤ U := by omega
          have hUW : ¬ U = W := by omega
          clear ht3 hS HG htU
          go_wp2_with fail
          go_loopw [13] (fun i wr => ∃ J : Nat, J ≤ 16 ∧ i = .int .i64 J ∧ Chg (fun _ => False) w4 wr) (fun i _ => 16 - (intOf i).toNat)
          case atStart => exact ⟨0, by omega, rfl, Chg.refl _ _⟩
          case round =>
            obtain ⟨J, hK, rfl, cK⟩ := hrel
            have ht := ht.keep cK
            have hr := hr.keep cK
            have a := a.trans cK (fun _ _ h => h.elim)
            by_cases hK16 : J < 16
            · obtain ⟨⟨hq, -, -, -⟩, -⟩ := hr.rec hK16
              have hL : ∀ wx : World, TblAt wx U f → Calls Try.prog 45 #[.pointer (some ⟨U, 0, none⟩), .int .i64 (J : Int)] wx fun e w' => e = .returned (.int .i64 (f J).q) ∧ ∃ q, w' = wx.drewN q := fun wx h => by
                have h1 := Last_calls (c := (J : Int)) h (by omega)
                rw [slast_in hK16] at h1
                exact h1
              have HL := Lib.hid hL
              clear hL
              generalize (f J).q = v at hq HL
              have hvb : (v != v) = false := by simp
              have hk16 : (J : Int) < 16 := by omega
              have hk0 : ¬ (J : Int) < 0 := by omega
              have hk1 : ¬ (16 : Int) ≤ (J : Int) := by omega
              go_wp2_with fail
              refine wp_region_held_drew (S := fun wx => wx.cell? ⟨W, J, none⟩ = some (.int .i64 v)) (by kernel_rfl) hq (fun hHeld => ?_)
              refine take_at (i := 0) (some 110) (v := ?_) rfl rfl (by kernel_rfl) (by kernel_rfl) (by kernel_rfl) (fun _ _ _ h => h) (Or.inl ⟨by rfl, ?_⟩) (by assumption) ?_
              rotate_left
              · (intro wx hSw; go_simp; try (with_reducible rfl))
              try simp only [Act.put, List.setIfInBounds_toArray, List.set_cons_zero, List.set_cons_succ]
              refine take_at (i := 1) (some 111) (v := ?_) rfl rfl (by kernel_rfl) (by kernel_rfl) (by kernel_rfl) (fun _ _ _ h => h) (Or.inl ⟨by rfl, ?_⟩) (by assumption) ?_
              rotate_left
              · (intro wx hSw; go_simp; try (with_reducible rfl))
              try simp only [Act.put, List.setIfInBounds_toArray, List.set_cons_zero, List.set_cons_succ]
              refine take_at (i := 3) (some 113) (v := ?_) rfl rfl (by kernel_rfl) (by kernel_rfl) (by kernel_rfl) (fun _ _ _ h => h) (Or.inl ⟨by rfl, ?_⟩) (by assumption) ?_
              rotate_left
              · (intro wx hSw; go_simp; try (with_reducible rfl))
              try simp only [Act.put, List.setIfInBounds_toArray, List.set_cons_zero, List.set_cons_succ]
              refine take_at (i := 4) (some 114) (v := ?_) rfl rfl (by kernel_rfl) (by kernel_rfl) (by kernel_rfl) (fun _ _ _ h => h) (Or.inl ⟨by rfl, ?_⟩) (by assumption) ?_
              rotate_left
              · (intro wx hSw; go_simp; try (with_reducible rfl))
              try simp only [Act.put, List.setIfInBounds_toArray, List.set_cons_zero, List.set_cons_succ]
              refine take_at (i := 5) (some 115) (v := ?_) rfl rfl (by kernel_rfl) (by kernel_rfl) (by kernel_rfl) (fun _ _ _ h => h) (Or.inl ⟨by rfl, ?_⟩) (by assumption) ?_
              rotate_left
              · (intro wx hSw; go_simp; try (with_reducible rfl))
              try simp only [Act.put, List.setIfInBounds_toArray, List.set_cons_zero, List.set_cons_succ]
              refine take_at (i := 6) (some 116) (v := ?_) rfl rfl (by kernel_rfl) (by kernel_rfl) (by kernel_rfl) (fun _ _ _ h => h) (Or.inl ⟨by rfl, ?_⟩) (by assumption) ?_
              rotate_left
              · (intro wx hSw; go_simp; try (with_reducible rfl))
              try simp only [Act.put, List.setIfInBounds_toArray, List.set_cons_zero, List.set_cons_succ]
              refine take_at (i := 7) (some 117) (v := ?_) rfl rfl (by kernel_rfl) (by kernel_rfl) (by kernel_rfl) (fun _ _ _ h => h) (Or.inl ⟨by rfl, ?_⟩) (by assumption) ?_
              rotate_left
              · (intro wx hSw; go_simp; try (with_reducible rfl))
              try simp only [Act.put, List.setIfInBounds_toArray, List.set_cons_zero, List.set_cons_succ]
              refine take_at (i := 8) (some 118) (v := ?_) rfl rfl (by kernel_rfl) (by kernel_rfl) (by kernel_rfl) (fun _ _ _ h => h) (Or.inl ⟨by rfl, ?_⟩) (by assumption) ?_
              rotate_left
              · (intro wx hSw; go_simp; try (with_reducible rfl))
              try simp only [Act.put, List.setIfInBounds_toArray, List.set_cons_zero, List.set_cons_succ]
              refine wpAnyH_ready (rs := [2]) (by kernel_rfl) (by simp) ?_
              refine AllReadyH.cons rfl (fun K hK => ?_) AllReadyH.nil
              go_simp
              refine (HL.out _ (ht.keep ((Chg.refl _ wr).drew))).mono ?_
              rintro e w8 ⟨rfl, q7, rfl⟩
              have hq8 := ((Chg.refl (fun _ => False) (wr.drew)).drewN q7).cell (p := ⟨W, J, none⟩) hq (fun h => h)
              go_wp2_with fail
              refine hK.out _ _ ?_ (fun hHeld => ?_)
              · (exact hq8)
              clear hK K
              try simp only [Act.put, List.setIfInBounds_toArray, List.set_cons_zero, List.set_cons_succ]
              refine take_at (i := 9) (some 119) (v := ?_) rfl rfl (by kernel_rfl) (by kernel_rfl) (by kernel_rfl) (fun _ _ _ h => h) (Or.inl ⟨by rfl, ?_⟩) (by assumption) ?_
              rotate_left
              · (intro wx hSw; go_simp; try (with_reducible rfl))
              try simp only [Act.put, List.setIfInBounds_toArray, List.set_cons_zero, List.set_cons_succ]
              refine wpAnyH_done (by kernel_rfl) ?_ _
              go_wp2_with fail
              go_roundw
              case rel => exact ⟨J + 1, by omega, by go_num, cK.drewN _⟩
              case measure => simp [intOf]; omega
            · have hk16 : ¬ (J : Int) < 16 := by omega
              go_wp2_with fail
              go_roundw
              case rel => exact ⟨I + 1, U, f, by omega, by omega, by go_num, rfl, hf, ht, hr, by omega, by omega, a⟩
              case measure => simp [intOf]; omega
    · have hcase : ¬ I < n1 ∨ (I < n1 ∧ ¬ I < 100) := by omega
      rcases hcase with hIn | ⟨hIn, hI10⟩
      all_goals
        go_wp2_with fail
        refine (known17 _).mono ?_
        rintro e wE ⟨rfl, hcE⟩
        go_wp2_with fail
        go_ret
        exact ⟨rfl, (a.trans hcE (fun _ _ h => h.elim)).new fun k hk h => by have := HT.out; omega⟩
end Go.Proofs.Ytiibkbkcncmjoaa
