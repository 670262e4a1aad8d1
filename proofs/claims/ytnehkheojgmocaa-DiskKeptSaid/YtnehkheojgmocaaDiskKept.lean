/-
  DiskKept: the bytes of a disk are their own memory: the walk through the law.
-/
import Derived.Test.YtnehkheojgmocaaDiskSafe
namespace Go.Proofs.Ytnehkheojgmocaa
open Go.RowKit
set_option linter.unusedVariables false
set_option linter.unusedSimpArgs false

/-- DiskIn with the disk's own block named. -/
def DiskX (w0 w : World) (D : Nat) (own : Option Nat) (bs : List UInt8) (safe : Nat) : Prop :=
  DiskAt w D own bs safe ∧ w0.heap.size ≤ D ∧ (∀ g, own = some g → w0.heap.size ≤ g) ∧ Chg (fun _ => False) w0 w
/-- a slice of bytes that the law itself writes into -/
def Scr (w : World) (own : Option Nat) (A : Option Addr) (n cap : Nat) : Prop := ∃ xs, Own w 5 own A n cap xs ∧ ∀ u ∈ xs, ∃ v : Int, u = .int .u8 v
theorem bv_scr (l : List UInt8) : ∀ u ∈ bv l, ∃ v : Int, u = .int .u8 v := by
  intro u hu
  simp only [bv, List.mem_map] at hu
  obtain ⟨b, _, rfl⟩ := hu
  exact ⟨_, rfl⟩
section
variable {w0 w w' : World} {D : Nat} {own oM : Option Nat} {bs : List UInt8} {safe n cap : Nat} {A : Option Addr}
theorem DiskX.in_ (h : DiskX w0 w D own bs safe) : DiskIn w0 w D bs safe := ⟨own, h⟩
theorem DiskX.step (h : DiskX w0 w D own bs safe) (hc : Chg (fun _ => False) w w') : DiskX w0 w' D own bs safe :=
  ⟨h.1.chg hc (fun h => h) (fun _ _ h => h), h.2.1, h.2.2.1, h.2.2.2.trans hc fun _ _ h => h⟩
theorem Scr.step (h : Scr w oM A n cap) (hc : Chg (fun _ => False) w w') : Scr w' oM A n cap := by
  obtain ⟨xs, h1, h2⟩ := h
  exact ⟨xs, h1.chg hc (fun _ _ h => h), h2⟩
/-- element j of it, and what a store there leaves -/
theorem Scr.at_ (h : Scr w oM A n cap) {j : Nat} (hj : j < n) :
    ∃ g v, oM = some g ∧ A = some ⟨g, 0, none⟩ ∧ w.cell? ⟨g, j, none⟩ = some (.int .u8 v) ∧ w.frozen? ⟨g, j, none⟩ = false ∧ ∀ u : Int, Scr (w.setCell ⟨g, j, none⟩ (.int .u8 u)) oM A n cap := by
  obtain ⟨xs, h1, h2⟩ := h
  have hl : j < xs.length := by have := h1.len; omega
  obtain ⟨g, e1, e2, e3, e4⟩ := h1.cells (List.getElem?_eq_getElem hl)
  obtain ⟨v, hv⟩ := h2 xs[j] (List.getElem_mem hl)
  refine ⟨g, v, e1, e2, by rw [e3, hv], e4, fun u => ⟨_, h1.set e1 j _, fun y hy => ?_⟩⟩
  rcases List.mem_or_eq_of_mem_set hy with hy | rfl
  · exact h2 y hy
  · exact ⟨u, rfl⟩
theorem DiskX.poke (h : DiskX w0 w D own bs safe) (hs : Scr w oM A n cap) {g : Nat} (hg : oM = some g) (hw : w0.heap.size ≤ g) (hne : own ≠ some g) (j : Nat) (u : Value) : DiskX w0 (w.setCell ⟨g, j, none⟩ u) D own bs safe := by
  obtain ⟨xs, h1, _⟩ := hs
  have hD : g ≠ D := by
    rintro rfl
    obtain ⟨_, _, _, _, hh, _⟩ := h.1
    exact h1.ne_ hh (by decide) hg
  refine ⟨h.1.chg (Chg.one w ⟨g, j, none⟩ u) (fun e => hD e.symm) (fun k hk e => hne (by rw [hk, e])), h.2.1, h.2.2.1, h.2.2.2.setNew hw j u⟩
end

set_option maxRecDepth 100000 in
set_option maxHeartbeats 4000000 in
theorem kept_walk {w : World} {A : Option Addr} {n c : Nat} {la : List UInt8} (ha : BytesArg w A n c la) :
    Calls Try.prog 8 #[.slice A n c] w (Holds w) := by
  have hsz := str_size
  have hsl := str_toList
  have ba := ha.2
  go_enter Try.func8, Try.ntmps8
  go_wp2_with fail
  refine (New_calls _).mono ?_
  rintro e w1 ⟨rfl, hd0, hc0⟩
  have hd1 : DiskX w w1 w.heap.size none [] 0 := ⟨hd0, Nat.le_refl _, (fun g hg => by simp at hg), hc0⟩
  obtain ⟨D, hD⟩ : ∃ D, w.heap.size = D := ⟨_, rfl⟩
  clear hd0 hc0
  rw [hD] at hd1 ⊢
  have HD := Lib.hid hD
  clear hD
  go_upto_if 15 with fail
  go_cut [0] (fun s wx => CutTo 500 w A c s ∧ w1 = wx)
  case first =>
    by_cases h : 500 < n
    all_goals
      go_wp2_with fail
      go_meet
    · exact ⟨cutTo_cut ha h, rfl⟩
    · exact ⟨cutTo_whole ha h, rfl⟩
  case rest =>
    obtain ⟨⟨na, L, rfl, ha1, ha2, ha3, ha4, ha5⟩, rfl⟩ := hcut
    have HA4 := Lib.hid ha4
    have hL : L.length ≤ 500 := by omega
    clear ha4
    have hk1 := hd1.2.2.2
    have hx1 : Cs (w1.alloc (.cells #[] 5)) (fun k => k < w.heap.size) A na (bv L) := ha5.chg (hk1.alloc _) (fun _ _ _ hf => hf)
    go_wp2_with (at_builtin; refine wpList_append rfl _ _ 26 26 rfl 5 1 bytesApp none _ 0 0 [] (bv L) _ rfl rfl (Own.nil_ _ _ _) (Src.slice hx1) (bv_one L) na ?_ (by omega) (by omega) ?_)
    · rw [bv_length]; have := HA4.out; omega
    · intro oM AM capM w2 hm2 hor hc2
      have hd2 : DiskX w w2 D none [] 0 := hd1.step (((Chg.refl _ w1).alloc _).trans hc2 fun _ _ h => h)
      have hm2n : ∀ g, oM = some g → w.heap.size ≤ g := fun g hg => by
        have := hd1.2.2.2.size
        rcases hor with h0 | h0
        · rw [h0] at hg; simp at hg
        · rw [h0] at hg; simp at hg; omega
      clear hor hc2 hx1 hk1
      go_wp2_with fail
      refine (Append_ok hd2.1 hm2.cs (by simp; omega)).mono ?_
      rintro e w3 ⟨own, rfl, hd, hown, hc3⟩
      rw [List.nil_append] at hd
      have hgt : ∀ g, own = some g → w2.heap.size ≤ g := fun g hg => by
        rcases hown with h0 | h0
        · rw [h0] at hg; simp at hg
        · exact h0 g hg
      have hm3 : Scr w3 oM AM na capM := by
        have hneD : oM ≠ some D := by
          obtain ⟨_, _, _, _, hh, _⟩ := hd2.1
          exact hm2.ne_ hh (by decide)
        exact ⟨_, hm2.chg hc3 (fun k hk ht => by
          rcases ht with ht | ht
          · exact hneD (by rw [hk, ht])
          · simp at ht), bv_scr L⟩
      have hd3 : DiskX w w3 D own L 0 := by
        have hsz2 := hd2.2.2.2.size
        refine ⟨hd, hd2.2.1, fun g hg => by have := hgt g hg; omega, hd2.2.2.2.trans hc3 fun i hi ht => ?_⟩
        have := hd2.2.1
        rcases ht with ht | ht
        · omega
        · simp at ht
      have hne3 : ∀ g, oM = some g → own ≠ some g := fun g hg he => by
        have h1 := hgt g he
        have h2 := hm2.lt hg
        omega
      clear hd hown hgt hc3 hd2 hm2
      go_wp2_with fail
      go_loopw [5] (fun i wr => ∃ k : Nat, k ≤ na ∧ i = .int .i64 k ∧ DiskX w wr D own L 0 ∧ Scr wr oM AM na capM) (fun i _ => na - (intOf i).toNat)
      case atStart => exact ⟨0, Nat.zero_le _, rfl, hd3, hm3⟩
      case round =>
        obtain ⟨k, hk, rfl, hd, hm⟩ := hrel
        by_cases hlt : k < na
        · obtain ⟨g, v, hg, rfl, hc, hf, hset⟩ := hm.at_ hlt
          have hd' := fun u => hd.poke hm hg (hm2n g hg) (hne3 g hg) k u
          have HS := Lib.hid hset
          have HP := Lib.hid hd'
          have HG := Lib.hid hg
          clear hset hd' hg
          go_wp2_with fail
          go_roundw
          case rel => exact ⟨k + 1, by omega, by go_num, HP.out _, HS.out _⟩
          case measure => simp [intOf]; omega
        · go_wp2_with fail
          refine (Bytes_calls hd.1).mono ?_
          rintro e w4 ⟨oX, AX, cX, rfl, hX, hXn, hc4⟩
          have hd4 := hd.step hc4
          have hneX : ∀ g, oX = some g → own ≠ some g := fun g hg he => by
            have h1 := hXn g hg
            have h2 := hd.1.ownLt g he
            omega
          have hXw : ∀ g, oX = some g → w.heap.size ≤ g := fun g hg => by
            have h1 := hXn g hg
            have h2 := hd.2.2.2.size
            omega
          have hm4 : Scr w4 oX AX L.length cX := ⟨_, hX, bv_scr L⟩
          clear hX hXn hc4 hd hm
          go_wp2_with fail
          go_loopw [7] (fun i wr => ∃ k : Nat, k ≤ L.length ∧ i = .int .i64 k ∧ DiskX w wr D own L 0 ∧ Scr wr oX AX L.length cX) (fun i _ => L.length - (intOf i).toNat)
          case atStart => exact ⟨0, Nat.zero_le _, rfl, hd4, hm4⟩
          case round =>
            obtain ⟨k, hk, rfl, hd, hm⟩ := hrel
            by_cases hlt : k < L.length
            · obtain ⟨g, v, hg, rfl, hc, hf, hset⟩ := hm.at_ hlt
              have hd' := fun u => hd.poke hm hg (hXw g hg) (hneX g hg) k u
              have HS := Lib.hid hset
              have HP := Lib.hid hd'
              have HG := Lib.hid hg
              clear hset hd' hg
              go_wp2_with fail
              go_roundw
              case rel => exact ⟨k + 1, by omega, by go_num, HP.out _, HS.out _⟩
              case measure => simp [intOf]; omega
            · go_wp2_with fail
              go_upto_region 17 with fail
              go_cut [59] (fun s wx => s = .bool false ∧ DiskIn w wx D L 0)
              case first =>
                have hdr : DiskIn w wr.drew D L 0 := hd.in_.step ((Chg.refl _ _).drew)
                have ra : ∀ wx, DiskIn w wx D L 0 → (convert 26 9 (.slice A na c)).run Try.prog wx = .ok (.string (str L)) wx := fun wx h =>
                  run_string (P := Try.prog) Try.underlying26 Try.underlying5 Try.underlying9 (ha5.chg h.kept (fun _ _ _ hf => hf))
                refine wp_region_held_drew (S := fun wx => DiskIn w wx D L 0) (by kernel_rfl) hdr (fun hHeld => ?_)
                refine take_at (i := 0) (some 54) (v := ?_) rfl rfl (by kernel_rfl) (by kernel_rfl) (by kernel_rfl) (fun _ _ _ h => h) (Or.inl ⟨by rfl, ?_⟩) (by assumption) ?_
                rotate_left
                · (intro wx hSw; go_simp; try (with_reducible rfl))
                try simp only [Act.put, List.setIfInBounds_toArray, List.set_cons_zero, List.set_cons_succ]
                refine take_at (i := 3) (some 57) (v := ?_) rfl rfl (by kernel_rfl) (by kernel_rfl) (by kernel_rfl) (fun _ _ _ h => h) (Or.inl ⟨by rfl, ?_⟩) (by assumption) ?_
                rotate_left
                · (intro wx hSw; go_simp; try (with_reducible rfl))
                try simp only [Act.put, List.setIfInBounds_toArray, List.set_cons_zero, List.set_cons_succ]
                refine take_at (i := 4) (some 58) (v := ?_) rfl rfl (by kernel_rfl) (by kernel_rfl) (by kernel_rfl) (fun _ _ _ h => h) (Or.inl ⟨by rfl, ?_⟩) (by assumption) ?_
                rotate_left
                · (intro wx hSw; go_simp; try (with_reducible rfl))
                try simp only [Act.put, List.setIfInBounds_toArray, List.set_cons_zero, List.set_cons_succ]
                refine wpAnyH_ready (rs := [1]) (by kernel_rfl) (by simp) ?_
                refine AllReadyH.cons rfl (fun K hK => ?_) AllReadyH.nil
                go_simp
                refine (Bytes_in (by assumption)).mono ?_
                rintro e w6 ⟨ow, A8, cap8, rfl, hcs, hd6⟩
                have hst := run_string (P := Try.prog) (c := cap8) Try.underlying26 Try.underlying5 Try.underlying9 hcs
                go_wp2_with fail
                refine hK.out _ _ ?_ (fun hHeld => ?_)
                · (assumption)
                clear hK K
                try simp only [Act.put, List.setIfInBounds_toArray, List.set_cons_zero, List.set_cons_succ]
                refine wpAnyH_ready (rs := [2]) (by kernel_rfl) (by simp) ?_
                refine AllReadyH.cons rfl (fun K hK => ?_) AllReadyH.nil
                go_simp
                refine hK.out _ _ ?_ (fun hHeld => ?_)
                · (assumption)
                clear hK K
                try simp only [Act.put, List.setIfInBounds_toArray, List.set_cons_zero, List.set_cons_succ]
                refine take_at (i := 5) (some 59) (v := ?_) rfl rfl (by kernel_rfl) (by kernel_rfl) (by kernel_rfl) (fun _ _ _ h => h) (Or.inl ⟨by rfl, ?_⟩) (by assumption) ?_
                rotate_left
                · (intro wx hSw; go_simp; try (with_reducible rfl))
                try simp only [Act.put, List.setIfInBounds_toArray, List.set_cons_zero, List.set_cons_succ]
                refine wpAnyH_done (by kernel_rfl) ?_ _
                go_wp2_with fail
                go_meet
                exact ⟨rfl, by assumption⟩
              case rest =>
                obtain ⟨rfl, hd6⟩ := hcut
                clear hd hm hm4 hd4 hXw hneX
                have hk6 := hd6.kept
                have hx6 : Cs (wc.alloc (.cells #[] 5)) (fun k => k < w.heap.size) A na (bv L) := ha5.chg (hk6.alloc _) (fun _ _ _ hf => hf)
                go_wp2_with (at_builtin; refine wpList_append rfl _ _ 26 26 rfl 5 1 bytesApp none _ 0 0 [] (bv L) _ rfl rfl (Own.nil_ _ _ _) (Src.slice hx6) (bv_one L) na ?_ (by omega) (by omega) ?_)
                · rw [bv_length]; have := HA4.out; omega
                · intro oO AO cO w7 hO hor7 hc7
                  have hd7 : DiskIn w w7 D L 0 := hd6.step (((Chg.refl _ wc).alloc _).trans hc7 fun _ _ h => h)
                  have hOn : ∀ g, oO = some g → w.heap.size ≤ g := fun g hg => by
                    have := hd6.kept.size
                    rcases hor7 with h0 | h0
                    · rw [h0] at hg; simp at hg
                    · rw [h0] at hg; simp at hg; omega
                  clear hor7 hc7 hx6 hk6
                  obtain ⟨own7, hx7⟩ := hd7
                  go_wp2_with fail
                  refine (Swap_ok hx7.1 hO.cs (by omega)).mono ?_
                  rintro e w8 ⟨own, rfl, hd8, hnew8, hc8⟩
                  have hm8 : Scr w8 oO AO na cO := by
                    have hneD : oO ≠ some D := by
                      obtain ⟨_, _, _, _, hh, _⟩ := hx7.1
                      exact hO.ne_ hh (by decide)
                    exact ⟨_, hO.chg hc8 (fun k hk ht => hneD (by rw [hk, ht])), bv_scr L⟩
                  have hne8 : ∀ g, oO = some g → own ≠ some g := fun g hg he => by
                    have h1 := hnew8 g he
                    have h2 := hO.lt hg
                    omega
                  have hd9 : DiskX w w8 D own L L.length := by
                    have hsz7 := hx7.2.2.2.size
                    refine ⟨hd8, hx7.2.1, fun g hg => by have := hnew8 g hg; omega, hx7.2.2.2.trans hc8 fun i hi ht => ?_⟩
                    have h1 : i = D := ht
                    have := hx7.2.1
                    omega
                  clear hx7 hO hd8 hnew8 hc8
                  go_wp2_with fail
                  go_loopw [9] (fun i wr => ∃ k : Nat, k ≤ na ∧ i = .int .i64 k ∧ DiskX w wr D own L L.length ∧ Scr wr oO AO na cO) (fun i _ => na - (intOf i).toNat)
                  case atStart => exact ⟨0, Nat.zero_le _, rfl, hd9, hm8⟩
                  case round =>
                    obtain ⟨k, hk, rfl, hd, hm⟩ := hrel
                    by_cases hlt : k < na
                    · obtain ⟨g, v, hg, rfl, hc, hf, hset⟩ := hm.at_ hlt
                      have hd' := fun u => hd.poke hm hg (hOn g hg) (hne8 g hg) k u
                      have HS := Lib.hid hset
                      have HP := Lib.hid hd'
                      have HG := Lib.hid hg
                      clear hset hd' hg
                      go_wp2_with fail
                      go_roundw
                      case rel => exact ⟨k + 1, by omega, by go_num, HP.out _, HS.out _⟩
                      case measure => simp [intOf]; omega
                    · have hdr : DiskIn w wr.drew D L L.length := hd.in_.step ((Chg.refl _ _).drew)
                      have ra : ∀ wx, DiskIn w wx D L L.length → (convert 26 9 (.slice A na c)).run Try.prog wx = .ok (.string (str L)) wx := fun wx h =>
                        run_string (P := Try.prog) Try.underlying26 Try.underlying5 Try.underlying9 (ha5.chg h.kept (fun _ _ _ hf => hf))
                      go_wp2_with fail
                      refine wp_region_held_drew (S := fun wx => DiskIn w wx D L L.length) (by kernel_rfl) hdr (fun hHeld => ?_)
                      refine take_at (i := 0) (some 80) (v := ?_) rfl rfl (by kernel_rfl) (by kernel_rfl) (by kernel_rfl) (fun _ _ _ h => h) (Or.inl ⟨by rfl, ?_⟩) (by assumption) ?_
                      rotate_left
                      · (intro wx hSw; go_simp; try (with_reducible rfl))
                      try simp only [Act.put, List.setIfInBounds_toArray, List.set_cons_zero, List.set_cons_succ]
                      refine take_at (i := 3) (some 83) (v := ?_) rfl rfl (by kernel_rfl) (by kernel_rfl) (by kernel_rfl) (fun _ _ _ h => h) (Or.inl ⟨by rfl, ?_⟩) (by assumption) ?_
                      rotate_left
                      · (intro wx hSw; go_simp; try (with_reducible rfl))
                      try simp only [Act.put, List.setIfInBounds_toArray, List.set_cons_zero, List.set_cons_succ]
                      refine take_at (i := 4) (some 84) (v := ?_) rfl rfl (by kernel_rfl) (by kernel_rfl) (by kernel_rfl) (fun _ _ _ h => h) (Or.inl ⟨by rfl, ?_⟩) (by assumption) ?_
                      rotate_left
                      · (intro wx hSw; go_simp; try (with_reducible rfl))
                      try simp only [Act.put, List.setIfInBounds_toArray, List.set_cons_zero, List.set_cons_succ]
                      refine wpAnyH_ready (rs := [1]) (by kernel_rfl) (by simp) ?_
                      refine AllReadyH.cons rfl (fun K hK => ?_) AllReadyH.nil
                      go_simp
                      refine (Bytes_in (by assumption)).mono ?_
                      rintro e w16 ⟨ow, A8, cap8, rfl, hcs, hd16⟩
                      have hst := run_string (P := Try.prog) (c := cap8) Try.underlying26 Try.underlying5 Try.underlying9 hcs
                      go_wp2_with fail
                      refine hK.out _ _ ?_ (fun hHeld => ?_)
                      · (assumption)
                      clear hK K
                      try simp only [Act.put, List.setIfInBounds_toArray, List.set_cons_zero, List.set_cons_succ]
                      refine wpAnyH_ready (rs := [2]) (by kernel_rfl) (by simp) ?_
                      refine AllReadyH.cons rfl (fun K hK => ?_) AllReadyH.nil
                      go_simp
                      refine hK.out _ _ ?_ (fun hHeld => ?_)
                      · (assumption)
                      clear hK K
                      try simp only [Act.put, List.setIfInBounds_toArray, List.set_cons_zero, List.set_cons_succ]
                      refine take_at (i := 5) (some 85) (v := ?_) rfl rfl (by kernel_rfl) (by kernel_rfl) (by kernel_rfl) (fun _ _ _ h => h) (Or.inl ⟨by rfl, ?_⟩) (by assumption) ?_
                      rotate_left
                      · (intro wx hSw; go_simp; try (with_reducible rfl))
                      try simp only [Act.put, List.setIfInBounds_toArray, List.set_cons_zero, List.set_cons_succ]
                      refine take_at (i := 6) (some 86) (v := ?_) rfl rfl (by kernel_rfl) (by kernel_rfl) (by kernel_rfl) (fun _ _ _ h => h) (Or.inl ⟨by rfl, ?_⟩) (by assumption) ?_
                      rotate_left
                      · (intro wx hSw; go_simp; try (with_reducible rfl))
                      try simp only [Act.put, List.setIfInBounds_toArray, List.set_cons_zero, List.set_cons_succ]
                      refine wpAnyH_ready (rs := [7]) (by kernel_rfl) (by simp) ?_
                      refine AllReadyH.cons rfl (fun K hK => ?_) AllReadyH.nil
                      go_simp
                      refine (known20 _).mono ?_
                      rintro e w18 ⟨rfl, hk18⟩
                      have hd18 := DiskIn.step (by assumption) hk18
                      go_wp2_with fail
                      refine hK.out _ _ ?_ (fun hHeld => ?_)
                      · (assumption)
                      clear hK K
                      try simp only [Act.put, List.setIfInBounds_toArray, List.set_cons_zero, List.set_cons_succ]
                      refine take_at (i := 8) (some 88) (v := ?_) rfl rfl (by kernel_rfl) (by kernel_rfl) (by kernel_rfl) (fun _ _ _ h => h) (Or.inl ⟨by rfl, ?_⟩) (by assumption) ?_
                      rotate_left
                      · (intro wx hSw; go_simp; try (with_reducible rfl))
                      try simp only [Act.put, List.setIfInBounds_toArray, List.set_cons_zero, List.set_cons_succ]
                      refine take_at (i := 9) (some 2) (v := ?_) rfl rfl (by kernel_rfl) (by kernel_rfl) (by kernel_rfl) (fun _ _ _ h => h) (Or.inl ⟨by rfl, ?_⟩) (by assumption) ?_
                      rotate_left
                      · (intro wx hSw; go_simp; try (with_reducible rfl))
                      try simp only [Act.put, List.setIfInBounds_toArray, List.set_cons_zero, List.set_cons_succ]
                      refine wpAnyH_done (by kernel_rfl) ?_ _
                      go_wp2_with fail
                      go_ret
                      exact ⟨rfl, DiskIn.kept (by assumption)⟩
end Go.Proofs.Ytnehkheojgmocaa
