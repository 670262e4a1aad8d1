/-
  The document's session table (confluenceref17) in memory as a function of the client; contracts of its Ask and Done.
-/
import Derived.Test.YtiibkbkcncmjoaaTable2
namespace Go.Proofs.Ytiibkbkcncmjoaa
open Go.RowKit
set_option linter.unusedVariables false
set_option linter.unusedSimpArgs false

def rseq (g : Nat → SRec) : Nat → List Value
  | 0 => []
  | k + 1 => rseq g k ++ [.int .i64 (g k).q]
def rrep (g : Nat → SRec) : Nat → List Value
  | 0 => []
  | k + 1 => rrep g k ++ [.int .i64 (g k).y, .int .i64 (g k).a, .string (g k).z]
theorem rseq_length (g : Nat → SRec) : ∀ k, (rseq g k).length = k
  | 0 => rfl
  | k + 1 => by rw [rseq, List.length_append, rseq_length g k]; rfl
theorem rrep_length (g : Nat → SRec) : ∀ k, (rrep g k).length = k * 3
  | 0 => rfl
  | k + 1 => by rw [rrep, List.length_append, rrep_length g k]; simp; omega
theorem rseq_get (g : Nat → SRec) {k : Nat} : ∀ {n : Nat}, k < n → (rseq g n)[k]? = some (.int .i64 (g k).q)
  | 0, h => absurd h (by omega)
  | n + 1, h => by
    by_cases e : k = n
    · subst e
      rw [rseq, List.getElem?_append_right (by rw [rseq_length]; omega), rseq_length, Nat.sub_self]; rfl
    · rw [rseq, List.getElem?_append_left (by rw [rseq_length]; omega)]
      exact rseq_get g (n := n) (by omega)
theorem rrep_get (g : Nat → SRec) {k j : Nat} (hj : j < 3) : ∀ {n : Nat}, k < n → (rrep g n)[k * 3 + j]? = [Value.int .i64 (g k).y, .int .i64 (g k).a, .string (g k).z][j]?
  | 0, h => absurd h (by omega)
  | n + 1, h => by
    by_cases e : k = n
    · subst e
      rw [rrep, List.getElem?_append_right (by rw [rrep_length]; omega), rrep_length, Nat.add_sub_cancel_left]
    · rw [rrep, List.getElem?_append_left (by rw [rrep_length]; omega)]
      exact rrep_get g hj (n := n) (by omega)
theorem rseq_set (g : Nat → SRec) {k n : Nat} (r : SRec) (hk : k < n) : (rseq g n).set k (.int .i64 r.q) = rseq (supd g k r) n := by
  apply List.ext_getElem?
  intro i
  by_cases hi : i < n
  · rw [rseq_get (supd g k r) hi]
    by_cases e : i = k
    · subst e
      rw [List.getElem?_set_self (by rw [rseq_length]; omega), supd_same]
    · rw [List.getElem?_set_ne (by omega), rseq_get g hi, supd_other g r e]
  · rw [List.getElem?_eq_none (by rw [List.length_set, rseq_length]; omega), List.getElem?_eq_none (by rw [rseq_length]; omega)]
theorem rrep_set (g : Nat → SRec) {k n : Nat} (r : SRec) (hk : k < n) : (((rrep g n).set (k * 3) (.int .i64 r.y)).set (k * 3 + 1) (.int .i64 r.a)).set (k * 3 + 2) (.string r.z) = rrep (supd g k r) n := by
  apply List.ext_getElem?
  intro i
  by_cases hi : i < n * 3
  · obtain ⟨m, j, hj, rfl⟩ : ∃ m j, j < 3 ∧ i = m * 3 + j := ⟨i / 3, i % 3, Nat.mod_lt _ (by decide), by omega⟩
    have hm : m < n := by omega
    rw [rrep_get (supd g k r) hj hm]
    have hl := rrep_length g n
    by_cases e : m = k
    · subst e
      rw [supd_same]
      have hc : j = 0 ∨ j = 1 ∨ j = 2 := by omega
      rcases hc with rfl | rfl | rfl
      · rw [List.getElem?_set_ne (by omega), List.getElem?_set_ne (by omega), Nat.add_zero, List.getElem?_set_self (by omega)]; rfl
      · rw [List.getElem?_set_ne (by omega), List.getElem?_set_self (by rw [List.length_set]; omega)]; rfl
      · rw [List.getElem?_set_self (by rw [List.length_set, List.length_set]; omega)]; rfl
    · rw [supd_other g r e, List.getElem?_set_ne (by omega), List.getElem?_set_ne (by omega), List.getElem?_set_ne (by omega), rrep_get g hj hm]
  · rw [List.getElem?_eq_none (by simp [rrep_length]; omega), List.getElem?_eq_none (by rw [rrep_length]; omega)]
/-- In w the document's table g lies at W. -/
def RTblAt (w : World) (W : Nat) (g : Nat → SRec) : Prop := w.heap[W]? = some (.cells (rseq g 16 ++ rrep g 16).toArray 72 (0, 0))
theorem RTblAt.chg {S : Nat → Prop} {w w' : World} {W : Nat} {g : Nat → SRec} (h : RTblAt w W g) (hc : Chg S w w') (hn : ¬ S W) : RTblAt w' W g := hc.heap h hn
theorem RTblAt.keep {w w' : World} {W : Nat} {g : Nat → SRec} (h : RTblAt w W g) (hc : Chg (fun _ => False) w w') : RTblAt w' W g := h.chg hc (fun h => h)
theorem RTblAt.lt {w : World} {W : Nat} {g : Nat → SRec} (h : RTblAt w W g) : W < w.heap.size := lt_of_block h
theorem RTblAt.rec {w : World} {W : Nat} {g : Nat → SRec} (h : RTblAt w W g) {k : Nat} (hk : k < 16) :
    (w.cell? ⟨W, k, none⟩ = some (.int .i64 (g k).q) ∧ w.cell? ⟨W, 16 + k * 3, none⟩ = some (.int .i64 (g k).y) ∧ w.cell? ⟨W, 16 + k * 3 + 1, none⟩ = some (.int .i64 (g k).a) ∧ w.cell? ⟨W, 16 + k * 3 + 2, none⟩ = some (.string (g k).z)) ∧ ∀ j, w.frozen? ⟨W, j, none⟩ = false := by
  have hr : ∀ j, j < 3 → w.cell? ⟨W, 16 + k * 3 + j, none⟩ = [Value.int .i64 (g k).y, .int .i64 (g k).a, .string (g k).z][j]? := fun j hj => by
    rw [cell_of_row w W _ _ 72 (0, 0) h]
    rw [List.getElem?_toArray, List.getElem?_append_right (by rw [rseq_length]; omega), rseq_length, show 16 + k * 3 + j - 16 = k * 3 + j by omega]
    exact rrep_get g hj hk
  refine ⟨⟨?_, hr 0 (by decide), hr 1 (by decide), hr 2 (by decide)⟩, fun j => by simp only [World.frozen?]; rw [show w.heap[W]? = _ from h]; simp⟩
  rw [cell_of_row w W _ _ 72 (0, 0) h]
  rw [List.getElem?_toArray, List.getElem?_append_left (by rw [rseq_length]; omega)]
  exact rseq_get g hk
theorem RTblAt.put {w : World} {W : Nat} {g : Nat → SRec} (h : RTblAt w W g) {k : Nat} (hk : k < 16) (r : SRec) :
    RTblAt ((((w.setCell ⟨W, k, none⟩ (.int .i64 r.q)).setCell ⟨W, 16 + k * 3, none⟩ (.int .i64 r.y)).setCell ⟨W, 16 + k * 3 + 1, none⟩ (.int .i64 r.a)).setCell ⟨W, 16 + k * 3 + 2, none⟩ (.string r.z)) W (supd g k r) := by
  have e : ((((rseq g 16 ++ rrep g 16).toArray.setIfInBounds k (.int .i64 r.q)).setIfInBounds (16 + k * 3) (.int .i64 r.y)).setIfInBounds (16 + k * 3 + 1) (.int .i64 r.a)).setIfInBounds (16 + k * 3 + 2) (.string r.z) = (rseq (supd g k r) 16 ++ rrep (supd g k r) 16).toArray := by
    have hl := rseq_length g 16
    apply Array.ext'
    simp only [Array.toList_setIfInBounds]
    rw [List.set_append_left _ _ (by omega), rseq_set g r hk]
    have hl2 := rseq_length (supd g k r) 16
    rw [List.set_append_right _ _ (by omega), List.set_append_right _ _ (by omega), List.set_append_right _ _ (by omega), hl2, show 16 + k * 3 - 16 = k * 3 by omega, show 16 + k * 3 + 1 - 16 = k * 3 + 1 by omega, show 16 + k * 3 + 2 - 16 = k * 3 + 2 by omega, rrep_set g r hk]
  have h4 := heap_setCell_same _ W (16 + k * 3 + 2) _ _ (.string r.z) (heap_setCell_same _ W (16 + k * 3 + 1) _ _ (.int .i64 r.a) (heap_setCell_same _ W (16 + k * 3) _ _ (.int .i64 r.y) (heap_setCell_same _ W k _ _ (.int .i64 r.q) h)))
  rw [e] at h4
  exact h4
theorem rput_chg {w0 W0 : World} {W k : Nat} {q y a : Int} {z : ByteArray} (h : Chg (fun i => i = W) w0 W0) : Chg (fun i => i = W) w0 ((((W0.setCell ⟨W, k, none⟩ (.int .i64 q)).setCell ⟨W, 16 + k * 3, none⟩ (.int .i64 y)).setCell ⟨W, 16 + k * 3 + 1, none⟩ (.int .i64 a)).setCell ⟨W, 16 + k * 3 + 2, none⟩ (.string z)) :=
  (((h.setIn rfl _ _).setIn rfl _ _).setIn rfl _ _).setIn rfl _ _

set_option maxRecDepth 100000 in
theorem RAsk_new {w : World} {W k : Nat} {g : Nat → SRec} {q : Int} (ht : RTblAt w W g) (hk : k < 16) (hq : 1 ≤ q ∧ q ≤ 1073741824) (hs : (g k).q < q) :
    Calls Try.prog 47 #[.pointer (some ⟨W, 0, none⟩), .int .i64 (k : Int), .int .i64 q] w fun e w' => e = .returned (.tuple #[.int .i64 1, rep 0 0 ⟨#[]⟩]) ∧ Chg (fun _ => False) w w' := by
  have hTlt := ht.lt
  obtain ⟨⟨h0, h1, h2, h3⟩, hf⟩ := ht.rec hk
  generalize g k = r at h0 h1 h2 h3 hs ⊢
  have hTne : ¬ W = w.heap.size := by omega
  have hTne' : ¬ w.heap.size = W := by omega
  have hk16 : (k : Int) < 16 := by omega
  have hk0 : ¬ (k : Int) < 0 := by omega
  have hk1 : ¬ (16 : Int) ≤ (k : Int) := by omega
  have hq0 : ¬ q < 1 := by omega
  have hq1 : ¬ (1073741824 : Int) < q := by omega
  go_enter Try.func47, Try.ntmps47
  go_wp2_with fail
  refine bodyPost_ret (v := .tuple #[.int .i64 1, rep 0 0 ⟨#[]⟩]) ?_ rfl ?_
  · simp only [results, show Try.f47.results = #[.tmp 6, .cell 7 60] from rfl, rep]
    go_simp
  · exact ⟨rfl, (Chg.refl _ w).alloc _⟩

set_option maxRecDepth 100000 in
theorem RAsk_past {w : World} {W k : Nat} {g : Nat → SRec} {q : Int} (ht : RTblAt w W g) (hk : k < 16) (hq : 1 ≤ q ∧ q ≤ 1073741824) (hs : q < (g k).q) :
    Calls Try.prog 47 #[.pointer (some ⟨W, 0, none⟩), .int .i64 (k : Int), .int .i64 q] w fun e w' => e = .returned (.tuple #[.int .i64 3, rep 0 0 ⟨#[]⟩]) ∧ Chg (fun _ => False) w w' := by
  have hTlt := ht.lt
  obtain ⟨⟨h0, h1, h2, h3⟩, hf⟩ := ht.rec hk
  generalize g k = r at h0 h1 h2 h3 hs ⊢
  have hTne : ¬ W = w.heap.size := by omega
  have hTne' : ¬ w.heap.size = W := by omega
  have hk16 : (k : Int) < 16 := by omega
  have hk0 : ¬ (k : Int) < 0 := by omega
  have hk1 : ¬ (16 : Int) ≤ (k : Int) := by omega
  have hq0 : ¬ q < 1 := by omega
  have hq1 : ¬ (1073741824 : Int) < q := by omega
  have hs1 : ¬ r.q < q := by omega
  have hs2 : (q == r.q) = false := beq_eq_false_iff_ne.2 (by omega)
  go_enter Try.func47, Try.ntmps47
  go_wp2_with fail
  refine bodyPost_ret (v := .tuple #[.int .i64 3, rep 0 0 ⟨#[]⟩]) ?_ rfl ?_
  · simp only [results, show Try.f47.results = #[.tmp 6, .cell 7 60] from rfl, rep]
    go_simp
  · exact ⟨rfl, (Chg.refl _ w).alloc _⟩

set_option maxRecDepth 100000 in
theorem RAsk_again {w : World} {W k : Nat} {g : Nat → SRec} {q : Int} (ht : RTblAt w W g) (hk : k < 16) (hq : 1 ≤ q ∧ q ≤ 1073741824) (hs : q = (g k).q) :
    Calls Try.prog 47 #[.pointer (some ⟨W, 0, none⟩), .int .i64 (k : Int), .int .i64 q] w fun e w' => e = .returned (.tuple #[.int .i64 2, rep (g k).y (g k).a (g k).z]) ∧ Chg (fun _ => False) w w' := by
  have hTlt := ht.lt
  obtain ⟨⟨h0, h1, h2, h3⟩, hf⟩ := ht.rec hk
  generalize g k = r at h0 h1 h2 h3 hs ⊢
  have hTne : ¬ W = w.heap.size := by omega
  have hTne' : ¬ w.heap.size = W := by omega
  have hk16 : (k : Int) < 16 := by omega
  have hk0 : ¬ (k : Int) < 0 := by omega
  have hk1 : ¬ (16 : Int) ≤ (k : Int) := by omega
  have hq0 : ¬ q < 1 := by omega
  have hq1 : ¬ (1073741824 : Int) < q := by omega
  subst hs
  go_enter Try.func47, Try.ntmps47
  go_wp2_with fail
  go_region_held (fun wx => wx.cell? ⟨W, 16 + k * 3, none⟩ = some (.int .i64 r.y) ∧ wx.cell? ⟨W, 16 + k * 3 + 1, none⟩ = some (.int .i64 r.a) ∧ wx.cell? ⟨W, 16 + k * 3 + 2, none⟩ = some (.string r.z)) (go_keep) (fail)
  go_wp2_with fail
  refine bodyPost_ret (v := .tuple #[.int .i64 2, rep r.y r.a r.z]) ?_ rfl ?_
  · simp only [results, show Try.f47.results = #[.tmp 6, .cell 7 60] from rfl, rep]
    go_simp
  · exact ⟨rfl, ((Chg.refl _ w).alloc _).drew⟩

set_option maxRecDepth 100000 in
theorem RAsk_out {w : World} {W : Nat} {c q : Int} (hc : -9223372036854775808 ≤ c ∧ c ≤ 9223372036854775807) (hq : -9223372036854775808 ≤ q ∧ q ≤ 9223372036854775807) (h : c < 0 ∨ 16 ≤ c ∨ q < 1 ∨ 1073741824 < q) :
    Calls Try.prog 47 #[.pointer (some ⟨W, 0, none⟩), .int .i64 c, .int .i64 q] w fun e w' => e = .returned (.tuple #[.int .i64 0, rep 0 0 ⟨#[]⟩]) ∧ Chg (fun _ => False) w w' := by
  have hcase : c < 0 ∨ (¬ c < 0 ∧ 16 ≤ c) ∨ (¬ c < 0 ∧ ¬ 16 ≤ c ∧ q < 1) ∨ (¬ c < 0 ∧ ¬ 16 ≤ c ∧ ¬ q < 1 ∧ 1073741824 < q) := by omega
  clear h
  rcases hcase with h1 | ⟨h1, h2⟩ | ⟨h1, h2, h3⟩ | ⟨h1, h2, h3, h4⟩
  all_goals
    go_enter Try.func47, Try.ntmps47
    go_wp2_with fail
    refine bodyPost_ret (v := .tuple #[.int .i64 0, rep 0 0 ⟨#[]⟩]) ?_ rfl ?_
    · simp only [results, show Try.f47.results = #[.tmp 6, .cell 7 60] from rfl, rep]
      go_simp
    · exact ⟨rfl, (Chg.refl _ w).alloc _⟩
theorem RAsk_calls {w : World} {T : Nat} {f : Nat → SRec} {c q : Int} (ht : RTblAt w T f) (hc : -9223372036854775808 ≤ c ∧ c ≤ 9223372036854775807) (hq : -9223372036854775808 ≤ q ∧ q ≤ 9223372036854775807) :
    Calls Try.prog 47 #[.pointer (some ⟨T, 0, none⟩), .int .i64 c, .int .i64 q] w fun e w' => e = .returned (.tuple #[.int .i64 (show_ f c q), (sans f c q).rep]) ∧ Chg (fun _ => False) w w' := by
  by_cases hout : c < 0 ∨ 16 ≤ c ∨ q < 1 ∨ 1073741824 < q
  · have e1 : show_ f c q = 0 := by rw [show_, if_pos hout]
    have e2 : sans f c q = SRec.zero := by rw [sans, if_neg (by rw [e1]; decide)]
    rw [e1, e2]
    exact RAsk_out hc hq hout
  · obtain ⟨k, rfl⟩ := Int.eq_ofNat_of_zero_le (show 0 ≤ c by omega)
    have hk : k < 16 := by omega
    have hq' : 1 ≤ q ∧ q ≤ 1073741824 := by omega
    have ek : ((k : Int)).toNat = k := Int.toNat_natCast k
    have e0 : show_ f (k : Int) q = if (f k).q < q then 1 else if q = (f k).q then 2 else 3 := by rw [show_, if_neg hout, ek]
    by_cases h1 : (f k).q < q
    · have e1 : show_ f (k : Int) q = 1 := by rw [e0, if_pos h1]
      have e2 : sans f (k : Int) q = SRec.zero := by rw [sans, if_neg (by rw [e1]; decide)]
      rw [e1, e2]
      exact RAsk_new ht hk hq' h1
    · by_cases h2 : q = (f k).q
      · have e1 : show_ f (k : Int) q = 2 := by rw [e0, if_neg h1, if_pos h2]
        have e2 : sans f (k : Int) q = f k := by rw [sans, if_pos e1, ek]
        rw [e1, e2]
        exact RAsk_again ht hk hq' h2
      · have e1 : show_ f (k : Int) q = 3 := by rw [e0, if_neg h1, if_neg h2]
        have e2 : sans f (k : Int) q = SRec.zero := by rw [sans, if_neg (by rw [e1]; decide)]
        rw [e1, e2]
        exact RAsk_past ht hk hq' (by omega)

set_option maxRecDepth 100000 in
set_option maxHeartbeats 1000000 in
theorem RDone_calls {w : World} {W : Nat} {f : Nat → SRec} {c q y' a' : Int} {z' : ByteArray} (ht : RTblAt w W f) (hc : -9223372036854775808 ≤ c ∧ c ≤ 9223372036854775807) (hq : -9223372036854775808 ≤ q ∧ q ≤ 9223372036854775807) :
    Calls Try.prog 48 #[.pointer (some ⟨W, 0, none⟩), .int .i64 c, .int .i64 q, rep y' a' z'] w fun e w' => e = .returned (.int .i64 (sdoneWhy f c q)) ∧ RTblAt w' W (sdone f c q y' a' z') ∧ Chg (fun i => i = W) w w' := by
  have ha := RAsk_calls (ht.keep ((Chg.refl (fun _ => False) w).alloc (.cells #[.int .i64 y', .int .i64 a', .string z'] 60))) hc hq
  by_cases h : show_ f c q = 1
  · have e1 : sdoneWhy f c q = 0 := by rw [sdoneWhy, if_pos h]
    have e2 : sdone f c q y' a' z' = supd f c.toNat ⟨q, y', a', z'⟩ := by rw [sdone, if_pos h]
    have e3 : sans f c q = SRec.zero := by rw [sans, if_neg (by rw [h]; decide)]
    have hin : ¬ (c < 0 ∨ 16 ≤ c ∨ q < 1 ∨ 1073741824 < q) := fun hh => by rw [show_, if_pos hh] at h; revert h; decide
    rw [e1, e2]
    rw [h, e3] at ha
    obtain ⟨k, rfl⟩ := Int.eq_ofNat_of_zero_le (show 0 ≤ c by omega)
    rw [Int.toNat_natCast]
    have hk : k < 16 := by omega
    have HA := Lib.hid ha
    clear ha h e1 e2 e3 hin
    have hTlt := ht.lt
    rw [rep]
    go_enter Try.func48, Try.ntmps48
    go_wp2_with fail
    refine HA.out.mono ?_
    rintro e w1 ⟨rfl, hc1⟩
    have hsz := hc1.size
    have hB : w.heap.size < w1.heap.size := by simp at hsz; omega
    have b0 : w1.cell? ⟨w.heap.size, 0, none⟩ = some (.int .i64 y') := hc1.cell (by simp) (fun h => h)
    have b1 : w1.cell? ⟨w.heap.size, 1, none⟩ = some (.int .i64 a') := hc1.cell (by simp) (fun h => h)
    have b2 : w1.cell? ⟨w.heap.size, 2, none⟩ = some (.string z') := hc1.cell (by simp) (fun h => h)
    obtain ⟨B, hBe⟩ : ∃ B, w.heap.size = B := ⟨_, rfl⟩
    rw [hBe] at b0 b1 b2 hB hTlt ⊢
    have hT1 : ¬ W = w1.heap.size := by omega
    have hT2 : ¬ B = w1.heap.size := by omega
    have hT3 : ¬ w1.heap.size = B := by omega
    have hT4 : ¬ w1.heap.size = W := by omega
    have hch : Chg (fun _ => False) w (w1.alloc (.cells #[.int .i64 0, .int .i64 0, .string ⟨#[]⟩] 60)) := (((Chg.refl (fun _ => False) w).alloc _).trans hc1 (fun _ _ h => h)).alloc _
    have htF := ht.keep hch
    obtain ⟨⟨h0, h1, h2, h3⟩, hf⟩ := htF.rec hk
    have b0' := ((Chg.refl (fun _ => False) w1).alloc (.cells #[.int .i64 0, .int .i64 0, .string ⟨#[]⟩] 60)).cell b0 (fun h => h)
    have b1' := ((Chg.refl (fun _ => False) w1).alloc (.cells #[.int .i64 0, .int .i64 0, .string ⟨#[]⟩] 60)).cell b1 (fun h => h)
    have b2' := ((Chg.refl (fun _ => False) w1).alloc (.cells #[.int .i64 0, .int .i64 0, .string ⟨#[]⟩] 60)).cell b2 (fun h => h)
    have hk16 : (k : Int) < 16 := by omega
    have hk0 : (0 : Int) ≤ (k : Int) := by omega
    have hTB : ¬ W = B := by omega
    have hTB' : ¬ B = W := by omega
    rw [show SRec.zero.rep = .agg #[.int .i64 0, .int .i64 0, .string ⟨#[]⟩] from rfl]
    clear b0 b1 b2 ht
    go_wp2_with fail
    generalize w1.alloc (.cells #[.int .i64 0, .int .i64 0, .string ⟨#[]⟩] 60) = w2 at htF h0 h1 h2 h3 hf b0' b1' b2' hch ⊢
    have cq : Chg (fun i => i = W) w2 (w2.setCell ⟨W, k, none⟩ (.int .i64 q)) := (Chg.refl (fun i => i = W) w2).setIn rfl _ _
    have h1' : (w2.setCell ⟨W, k, none⟩ (.int .i64 q)).cell? ⟨W, 16 + k * 3, none⟩ = some (.int .i64 (f k).y) := by rw [World.cell?_setCell_other _ _ _ _ (fun h => by injection h with _ h _; omega)]; exact h1
    have h2' : (w2.setCell ⟨W, k, none⟩ (.int .i64 q)).cell? ⟨W, 16 + k * 3 + 1, none⟩ = some (.int .i64 (f k).a) := by rw [World.cell?_setCell_other _ _ _ _ (fun h => by injection h with _ h _; omega)]; exact h2
    have h3' : (w2.setCell ⟨W, k, none⟩ (.int .i64 q)).cell? ⟨W, 16 + k * 3 + 2, none⟩ = some (.string (f k).z) := by rw [World.cell?_setCell_other _ _ _ _ (fun h => by injection h with _ h _; omega)]; exact h3
    have d0 := cq.cell b0' hTB'
    have d1 := cq.cell b1' hTB'
    have d2 := cq.cell b2' hTB'
    have hf' : ∀ j, (w2.setCell ⟨W, k, none⟩ (.int .i64 q)).frozen? ⟨W, j, none⟩ = false := fun j => by simp [hf]
    refine wp_region_held_drew (S := fun wx => wx.cell? ⟨B, 0, none⟩ = some (.int .i64 y') ∧ wx.cell? ⟨B, 1, none⟩ = some (.int .i64 a') ∧ wx.cell? ⟨B, 2, none⟩ = some (.string z')) (by kernel_rfl) ⟨d0, d1, d2⟩ (fun hHeld => ?_)
    refine take_at (i := 0) (some 26) (v := ?_) rfl rfl (by kernel_rfl) (by kernel_rfl) (by kernel_rfl) (fun _ _ _ h => h) (Or.inl ⟨by rfl, ?_⟩) (by assumption) ?_
    rotate_left
    · (intro wx hSw; go_simp; try (with_reducible rfl))
    try simp only [Act.put, List.setIfInBounds_toArray, List.set_cons_zero, List.set_cons_succ]
    refine take_at (i := 1) (some 27) (v := ?_) rfl rfl (by kernel_rfl) (by kernel_rfl) (by kernel_rfl) (fun _ _ _ h => h) (Or.inl ⟨by rfl, ?_⟩) (by assumption) ?_
    rotate_left
    · (intro wx hSw; go_simp; try (with_reducible rfl))
    try simp only [Act.put, List.setIfInBounds_toArray, List.set_cons_zero, List.set_cons_succ]
    refine take_at (i := 2) (some 28) (v := ?_) rfl rfl (by kernel_rfl) (by kernel_rfl) (by kernel_rfl) (fun _ _ _ h => h) (Or.inl ⟨by rfl, ?_⟩) (by assumption) ?_
    rotate_left
    · (intro wx hSw; go_simp; try (with_reducible rfl))
    try simp only [Act.put, List.setIfInBounds_toArray, List.set_cons_zero, List.set_cons_succ]
    refine take_at (i := 3) (some 29) (v := ?_) rfl rfl (by kernel_rfl) (by kernel_rfl) (by kernel_rfl) (fun _ _ _ h => h) (Or.inl ⟨by rfl, ?_⟩) (by assumption) ?_
    rotate_left
    · (intro wx hSw; go_simp; try (with_reducible rfl))
    try simp only [Act.put, List.setIfInBounds_toArray, List.set_cons_zero, List.set_cons_succ]
    refine take_at (i := 4) (some 30) (v := ?_) rfl rfl (by kernel_rfl) (by kernel_rfl) (by kernel_rfl) (fun _ _ _ h => h) (Or.inl ⟨by rfl, ?_⟩) (by assumption) ?_
    rotate_left
    · (intro wx hSw; go_simp; try (with_reducible rfl))
    try simp only [Act.put, List.setIfInBounds_toArray, List.set_cons_zero, List.set_cons_succ]
    refine take_at (i := 5) (some 31) (v := ?_) rfl rfl (by kernel_rfl) (by kernel_rfl) (by kernel_rfl) (fun _ _ _ h => h) (Or.inl ⟨by rfl, ?_⟩) (by assumption) ?_
    rotate_left
    · (intro wx hSw; go_simp; try (with_reducible rfl))
    try simp only [Act.put, List.setIfInBounds_toArray, List.set_cons_zero, List.set_cons_succ]
    refine wpAnyH_ready (rs := [6]) (by kernel_rfl) (by simp) ?_
    refine AllReadyH.cons rfl (fun K hK => ?_) AllReadyH.nil
    go_simp
    refine hK.out _ _ ?_ (fun hHeld => ?_)
    · (go_keep)
    clear hK K
    try simp only [Act.put, List.setIfInBounds_toArray, List.set_cons_zero, List.set_cons_succ]
    refine wpAnyH_done (by kernel_rfl) ?_ _
    go_wp2_with fail
    go_ret
    exact ⟨rfl, (htF.put hk ⟨q, y', a', z'⟩).keep ((Chg.refl (fun _ => False) _).drew), (rput_chg (hch.mono (fun _ _ h => h.elim))).drew⟩
  · have e1 : sdoneWhy f c q = 1 := by rw [sdoneWhy, if_neg h]
    have e2 : sdone f c q y' a' z' = f := by rw [sdone, if_neg h]
    have hb : (show_ f c q != 1) = true := by simp [h]
    rw [e1, e2]
    have HA := Lib.hid ha
    clear ha h e1 e2
    generalize show_ f c q = how at HA hb
    generalize sans f c q = r at HA
    rw [rep]
    go_enter Try.func48, Try.ntmps48
    go_wp2_with fail
    refine HA.out.mono ?_
    rintro e w1 ⟨rfl, hc1⟩
    rw [show r.rep = .agg #[.int .i64 r.y, .int .i64 r.a, .string r.z] from rfl]
    go_wp2_with fail
    go_ret
    have hch := (((Chg.refl (fun _ => False) w).alloc (.cells #[.int .i64 y', .int .i64 a', .string z'] 60)).trans hc1 (fun _ _ h => h)).alloc (.cells #[.int .i64 r.y, .int .i64 r.a, .string r.z] 60)
    exact ⟨rfl, ht.keep hch, hch.mono (fun _ _ h => h.elim)⟩
end Go.Proofs.Ytiibkbkcncmjoaa
