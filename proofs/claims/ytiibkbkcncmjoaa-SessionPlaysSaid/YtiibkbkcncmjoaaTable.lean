/-
  A session table in memory as a function of the client; contracts of package session's New, Ask, Done, Last. No condition.
-/
import Derived.Test.YtiibkbkcncmjoaaRead
import Derived.Test.YtiibkbkcncmjoaaRegion
import Derived.Deep.DeepCutAuto
import Derived.LaidEqlPtr
namespace Go.Proofs.Ytiibkbkcncmjoaa
open Go.RowKit
set_option linter.unusedVariables false
set_option linter.unusedSimpArgs false

/-- a client's cells in the table at T -/
def Rec (w : World) (T k : Nat) (s y a : Int) (z : ByteArray) : Prop :=
  w.cell? ⟨T, k * 4, none⟩ = some (.int .i64 s) ∧ w.cell? ⟨T, k * 4 + 1, none⟩ = some (.int .i64 y) ∧ w.cell? ⟨T, k * 4 + 2, none⟩ = some (.int .i64 a) ∧ w.cell? ⟨T, k * 4 + 3, none⟩ = some (.string z) ∧
  w.frozen? ⟨T, k * 4, none⟩ = false ∧ w.frozen? ⟨T, k * 4 + 1, none⟩ = false ∧ w.frozen? ⟨T, k * 4 + 2, none⟩ = false ∧ w.frozen? ⟨T, k * 4 + 3, none⟩ = false

theorem Rec.chg {S : Nat → Prop} {w w' : World} {T k : Nat} {s y a : Int} {z : ByteArray} (h : Rec w T k s y a z) (hc : Chg S w w') (hn : ¬ S T) : Rec w' T k s y a z := by
  have hlt : T < w.heap.size := World.block_lt_of_cell? w ⟨T, k * 4, none⟩ h.1
  have hb : w'.heap[T]? = w.heap[T]? := hc.block T hlt hn
  unfold Rec at h ⊢
  simp only [World.cell?, World.frozen?] at h ⊢
  rw [hb]
  exact h

/-- the world with a client's record written anew -/
def putRec (W : World) (T k : Nat) (q y a : Int) (z : ByteArray) : World :=
  (((W.setCell ⟨T, k * 4, none⟩ (.int .i64 q)).setCell ⟨T, k * 4 + 1, none⟩ (.int .i64 y)).setCell ⟨T, k * 4 + 2, none⟩ (.int .i64 a)).setCell ⟨T, k * 4 + 3, none⟩ (.string z)
theorem put_far (W : World) (T k : Nat) (q y a : Int) (z : ByteArray) (i : Nat) (h : i < k * 4 ∨ k * 4 + 4 ≤ i) : (putRec W T k q y a z).cell? ⟨T, i, none⟩ = W.cell? ⟨T, i, none⟩ := by
  have ne (j : Nat) (hj : j ≠ i) : (⟨T, j, none⟩ : Addr) ≠ ⟨T, i, none⟩ := fun h => by injection h with _ h2 _; exact hj h2
  rw [putRec, World.cell?_setCell_other _ _ _ _ (ne _ (by omega)), World.cell?_setCell_other _ _ _ _ (ne _ (by omega)), World.cell?_setCell_other _ _ _ _ (ne _ (by omega)), World.cell?_setCell_other _ _ _ _ (ne _ (by omega))]
theorem put_frozen (W : World) (T k : Nat) (q y a : Int) (z : ByteArray) (b : Addr) : (putRec W T k q y a z).frozen? b = W.frozen? b := by simp [putRec]
theorem put_other {W : World} {T k j : Nat} {q y a s' y' a' : Int} {z z' : ByteArray} (hj : j ≠ k) (h : Rec W T j s' y' a' z') : Rec (putRec W T k q y a z) T j s' y' a' z' := by
  unfold Rec at h ⊢
  rw [put_far _ _ _ _ _ _ _ _ (by omega), put_far _ _ _ _ _ _ _ _ (by omega), put_far _ _ _ _ _ _ _ _ (by omega), put_far _ _ _ _ _ _ _ _ (by omega)]
  simp only [put_frozen]
  exact h
theorem put_self {W : World} {T k : Nat} {q y a s' y' a' : Int} {z z' : ByteArray} (h : Rec W T k s' y' a' z') : Rec (putRec W T k q y a z) T k q y a z := by
  obtain ⟨h0, h1, h2, h3, f⟩ := h
  have ne (i j : Nat) (hj : j ≠ i) : (⟨T, j, none⟩ : Addr) ≠ ⟨T, i, none⟩ := fun h => by injection h with _ h2 _; exact hj h2
  unfold Rec
  simp only [put_frozen]
  refine ⟨?_, ?_, ?_, ?_, f⟩
  · rw [putRec, World.cell?_setCell_other _ _ _ _ (ne _ _ (by omega)), World.cell?_setCell_other _ _ _ _ (ne _ _ (by omega)), World.cell?_setCell_other _ _ _ _ (ne _ _ (by omega)), World.cell?_setCell_same _ _ _ h0]
  · rw [putRec, World.cell?_setCell_other _ _ _ _ (ne _ _ (by omega)), World.cell?_setCell_other _ _ _ _ (ne _ _ (by omega))]
    exact World.cell?_setCell_same _ _ _ (by rw [World.cell?_setCell_other _ _ _ _ (ne _ _ (by omega))]; exact h1)
  · rw [putRec, World.cell?_setCell_other _ _ _ _ (ne _ _ (by omega))]
    exact World.cell?_setCell_same _ _ _ (by rw [World.cell?_setCell_other _ _ _ _ (ne _ _ (by omega)), World.cell?_setCell_other _ _ _ _ (ne _ _ (by omega))]; exact h2)
  · exact World.cell?_setCell_same _ _ _ (by rw [World.cell?_setCell_other _ _ _ _ (ne _ _ (by omega)), World.cell?_setCell_other _ _ _ _ (ne _ _ (by omega)), World.cell?_setCell_other _ _ _ _ (ne _ _ (by omega))]; exact h3)
theorem put_chg {W : World} {T k : Nat} {q y a : Int} {z : ByteArray} {w : World} (h : Chg (fun i => i = T) w W) : Chg (fun i => i = T) w (putRec W T k q y a z) :=
  (((h.setIn rfl _ _).setIn rfl _ _).setIn rfl _ _).setIn rfl _ _

def rep (y a : Int) (z : ByteArray) : Value := .agg #[.int .i64 y, .int .i64 a, .string z]


/-- a client's last request: its number, and what it was answered -/
structure SRec where
  q : Int
  y : Int
  a : Int
  z : ByteArray
def SRec.zero : SRec := ⟨0, 0, 0, ⟨#[]⟩⟩
def SRec.cells (r : SRec) : List Value := [.int .i64 r.q, .int .i64 r.y, .int .i64 r.a, .string r.z]
def tcells (f : Nat → SRec) : Nat → List Value
  | 0 => []
  | k + 1 => tcells f k ++ (f k).cells
theorem tcells_length (f : Nat → SRec) : ∀ k, (tcells f k).length = k * 4
  | 0 => rfl
  | k + 1 => by rw [tcells, List.length_append, tcells_length f k, SRec.cells]; simp; omega
theorem tcells_get (f : Nat → SRec) {k j : Nat} (hj : j < 4) : ∀ {n : Nat}, k < n → (tcells f n)[k * 4 + j]? = (f k).cells[j]?
  | 0, h => absurd h (by omega)
  | n + 1, h => by
    by_cases e : k = n
    · subst e
      rw [tcells, List.getElem?_append_right (by rw [tcells_length]; omega), tcells_length, Nat.add_sub_cancel_left]
    · rw [tcells, List.getElem?_append_left (by rw [tcells_length]; omega)]
      exact tcells_get f hj (n := n) (by omega)
/-- the table with client k's record written anew -/
def supd (f : Nat → SRec) (k : Nat) (r : SRec) : Nat → SRec := fun i => if i = k then r else f i
theorem supd_same (f : Nat → SRec) (k : Nat) (r : SRec) : supd f k r k = r := if_pos rfl
theorem supd_other (f : Nat → SRec) {k i : Nat} (r : SRec) (h : i ≠ k) : supd f k r i = f i := if_neg h
/-- In w the table f lies at T. -/
def TblAt (w : World) (T : Nat) (f : Nat → SRec) : Prop := w.heap[T]? = some (.cells (tcells f 16).toArray 97 (0, 0))
theorem TblAt.chg {S : Nat → Prop} {w w' : World} {T : Nat} {f : Nat → SRec} (h : TblAt w T f) (hc : Chg S w w') (hn : ¬ S T) : TblAt w' T f := hc.heap h hn
theorem TblAt.keep {w w' : World} {T : Nat} {f : Nat → SRec} (h : TblAt w T f) (hc : Chg (fun _ => False) w w') : TblAt w' T f := h.chg hc (fun h => h)
theorem TblAt.lt {w : World} {T : Nat} {f : Nat → SRec} (h : TblAt w T f) : T < w.heap.size := lt_of_block h
theorem TblAt.rec {w : World} {T : Nat} {f : Nat → SRec} (h : TblAt w T f) {k : Nat} (hk : k < 16) : Rec w T k (f k).q (f k).y (f k).a (f k).z := by
  have hc : ∀ j, j < 4 → w.cell? ⟨T, k * 4 + j, none⟩ = (f k).cells[j]? := fun j hj => by
    rw [cell_of_row w T (k * 4 + j) (tcells f 16).toArray 97 (0, 0) h]
    simpa using tcells_get f hj hk
  have hf : ∀ j, w.frozen? ⟨T, j, none⟩ = false := fun j => by simp only [World.frozen?]; rw [show w.heap[T]? = _ from h]; simp
  exact ⟨hc 0 (by decide), hc 1 (by decide), hc 2 (by decide), hc 3 (by decide), hf _, hf _, hf _, hf _⟩
theorem set4 {l : List Value} {n : Nat} {u0 u1 u2 u3 : Value} (f : Nat → SRec) (k : Nat) (r : SRec) (hk : k < n) (hu : r.cells = [u0, u1, u2, u3]) :
    ((((tcells f n).set (k * 4) u0).set (k * 4 + 1) u1).set (k * 4 + 2) u2).set (k * 4 + 3) u3 = tcells (supd f k r) n := by
  apply List.ext_getElem?
  intro i
  by_cases hi : i < n * 4
  · obtain ⟨m, j, hj, rfl⟩ : ∃ m j, j < 4 ∧ i = m * 4 + j := ⟨i / 4, i % 4, Nat.mod_lt _ (by decide), by omega⟩
    have hm : m < n := by omega
    rw [tcells_get (supd f k r) hj hm]
    by_cases e : m = k
    · subst e
      rw [supd_same, hu]
      have hl := tcells_length f n
      have hc : j = 0 ∨ j = 1 ∨ j = 2 ∨ j = 3 := by omega
      rcases hc with rfl | rfl | rfl | rfl
      · rw [List.getElem?_set_ne (by omega), List.getElem?_set_ne (by omega), List.getElem?_set_ne (by omega), Nat.add_zero, List.getElem?_set_self (by omega)]; rfl
      · rw [List.getElem?_set_ne (by omega), List.getElem?_set_ne (by omega), List.getElem?_set_self (by rw [List.length_set]; omega)]; rfl
      · rw [List.getElem?_set_ne (by omega), List.getElem?_set_self (by rw [List.length_set, List.length_set]; omega)]; rfl
      · rw [List.getElem?_set_self (by rw [List.length_set, List.length_set, List.length_set]; omega)]; rfl
    · rw [supd_other f r e, List.getElem?_set_ne (by omega), List.getElem?_set_ne (by omega), List.getElem?_set_ne (by omega), List.getElem?_set_ne (by omega), tcells_get f hj hm]
  · rw [List.getElem?_eq_none (by simp [tcells_length]; omega), List.getElem?_eq_none (by rw [tcells_length]; omega)]
theorem TblAt.put {w : World} {T : Nat} {f : Nat → SRec} (h : TblAt w T f) {k : Nat} (hk : k < 16) (r : SRec) : TblAt (putRec w T k r.q r.y r.a r.z) T (supd f k r) := by
  have e : ((((tcells f 16).toArray.setIfInBounds (k * 4) (.int .i64 r.q)).setIfInBounds (k * 4 + 1) (.int .i64 r.y)).setIfInBounds (k * 4 + 2) (.int .i64 r.a)).setIfInBounds (k * 4 + 3) (.string r.z) = (tcells (supd f k r) 16).toArray := by
    apply Array.ext'
    simp only [Array.toList_setIfInBounds]
    exact set4 (l := []) f k r hk rfl
  have h4 := heap_setCell_same _ T (k * 4 + 3) _ _ (.string r.z) (heap_setCell_same _ T (k * 4 + 2) _ _ (.int .i64 r.a) (heap_setCell_same _ T (k * 4 + 1) _ _ (.int .i64 r.y) (heap_setCell_same _ T (k * 4) _ _ (.int .i64 r.q) h)))
  rw [e] at h4
  exact h4

set_option maxRecDepth 100000 in
theorem Ask_new {w : World} {T k : Nat} {s q y a : Int} {z : ByteArray} (h : Rec w T k s y a z) (hk : k < 16) (hq : 1 ≤ q ∧ q ≤ 1073741824) (hs : s < q) :
    Calls Try.prog 41 #[.pointer (some ⟨T, 0, none⟩), .int .i64 (k : Int), .int .i64 q] w fun e w' => e = .returned (.tuple #[.int .i64 1, rep 0 0 ⟨#[]⟩]) ∧ Chg (fun _ => False) w w' := by
  obtain ⟨h0, h1, h2, h3, f0, f1, f2, f3⟩ := h
  have hTlt : T < w.heap.size := World.block_lt_of_cell? w ⟨T, k * 4, none⟩ h0
  have hTne : ¬ T = w.heap.size := by omega
  have hTne' : ¬ w.heap.size = T := by omega
  have hk16 : (k : Int) < 16 := by omega
  have hk0 : ¬ (k : Int) < 0 := by omega
  have hk1 : ¬ (16 : Int) ≤ (k : Int) := by omega
  have hq0 : ¬ q < 1 := by omega
  have hq1 : ¬ (1073741824 : Int) < q := by omega
  go_enter Try.func41, Try.ntmps41
  go_wp2_with fail
  refine bodyPost_ret (v := .tuple #[.int .i64 1, rep 0 0 ⟨#[]⟩]) ?_ rfl ?_
  · simp only [results, show Try.f41.results = #[.tmp 6, .cell 7 60] from rfl, rep]
    go_simp
  · exact ⟨rfl, (Chg.refl _ w).alloc _⟩

set_option maxRecDepth 100000 in
theorem Ask_again {w : World} {T k : Nat} {s q y a : Int} {z : ByteArray} (h : Rec w T k s y a z) (hk : k < 16) (hq : 1 ≤ q ∧ q ≤ 1073741824) (hs : q = s) :
    Calls Try.prog 41 #[.pointer (some ⟨T, 0, none⟩), .int .i64 (k : Int), .int .i64 q] w fun e w' => e = .returned (.tuple #[.int .i64 2, rep y a z]) ∧ Chg (fun _ => False) w w' := by
  obtain ⟨h0, h1, h2, h3, f0, f1, f2, f3⟩ := h
  have hTlt : T < w.heap.size := World.block_lt_of_cell? w ⟨T, k * 4, none⟩ h0
  have hTne : ¬ T = w.heap.size := by omega
  have hTne' : ¬ w.heap.size = T := by omega
  have hk16 : (k : Int) < 16 := by omega
  have hk0 : ¬ (k : Int) < 0 := by omega
  have hk1 : ¬ (16 : Int) ≤ (k : Int) := by omega
  have hq0 : ¬ q < 1 := by omega
  have hq1 : ¬ (1073741824 : Int) < q := by omega
  subst hs
  go_enter Try.func41, Try.ntmps41
  go_wp2_with fail
  go_region_held (fun wx => wx.cell? ⟨T, k * 4 + 1, none⟩ = some (.int .i64 y) ∧ wx.cell? ⟨T, k * 4 + 2, none⟩ = some (.int .i64 a) ∧ wx.cell? ⟨T, k * 4 + 3, none⟩ = some (.string z)) (go_keep) (fail)
  go_wp2_with fail
  refine bodyPost_ret (v := .tuple #[.int .i64 2, rep y a z]) ?_ rfl ?_
  · simp only [results, show Try.f41.results = #[.tmp 6, .cell 7 60] from rfl, rep]
    go_simp
  · exact ⟨rfl, ((Chg.refl _ w).alloc _).drew⟩

set_option maxRecDepth 100000 in
theorem Last_in {w : World} {T k : Nat} {s y a : Int} {z : ByteArray} (h : Rec w T k s y a z) (hk : k < 16) :
    Calls Try.prog 45 #[.pointer (some ⟨T, 0, none⟩), .int .i64 (k : Int)] w fun e w' => e = .returned (.int .i64 s) ∧ ∃ q, w' = w.drewN q := by
  obtain ⟨h0, h1, h2, h3, f0, f1, f2, f3⟩ := h
  have hk16 : (k : Int) < 16 := by omega
  have hk0 : ¬ (k : Int) < 0 := by omega
  have hk1 : ¬ (16 : Int) ≤ (k : Int) := by omega
  go_enter Try.func45, Try.ntmps45
  go_wp2_with fail
  go_ret
  exact ⟨rfl, 0, rfl⟩

set_option maxRecDepth 100000 in
theorem Session_new (w : World) :
    Calls Try.prog 40 #[] w fun e w' => e = .returned (.pointer (some ⟨w.heap.size, 0, none⟩)) ∧ (∀ k, k < 16 → Rec w' w.heap.size k 0 0 0 ⟨#[]⟩) ∧ Chg (fun _ => False) w w' := by
  go_enter Try.func40, Try.ntmps40
  go_wp2_with fail
  go_ret
  refine ⟨rfl, fun k hk => ?_, (Chg.refl _ w).alloc _⟩
  unfold Rec
  simp only [World.cell?_alloc_new, World.frozen?_alloc_new, and_self, and_true]
  have hks : k = 0 ∨ k = 1 ∨ k = 2 ∨ k = 3 ∨ k = 4 ∨ k = 5 ∨ k = 6 ∨ k = 7 ∨ k = 8 ∨ k = 9 ∨ k = 10 ∨ k = 11 ∨ k = 12 ∨ k = 13 ∨ k = 14 ∨ k = 15 := by omega
  rcases hks with rfl | rfl | rfl | rfl | rfl | rfl | rfl | rfl | rfl | rfl | rfl | rfl | rfl | rfl | rfl | rfl <;> exact ⟨rfl, rfl, rfl, rfl⟩

set_option maxRecDepth 100000 in
theorem Done_new {w : World} {T k : Nat} {f : Nat → SRec} {q y' a' : Int} {z' : ByteArray} (ht : TblAt w T f) (hk : k < 16) (hq : 1 ≤ q ∧ q ≤ 1073741824) (hs : (f k).q < q) :
    Calls Try.prog 42 #[.pointer (some ⟨T, 0, none⟩), .int .i64 (k : Int), .int .i64 q, rep y' a' z'] w fun e w' => e = .returned (.int .i64 0) ∧ TblAt w' T (supd f k ⟨q, y', a', z'⟩) ∧ Chg (fun i => i = T) w w' := by
  have h := ht.rec hk
  have hTlt : T < w.heap.size := World.block_lt_of_cell? w ⟨T, k * 4, none⟩ h.1
  rw [rep]
  go_enter Try.func42, Try.ntmps42
  go_wp2_with fail
  refine (Ask_new (h.chg ((Chg.refl (fun _ => False) w).alloc _) (fun h => h)) hk hq hs).mono ?_
  rintro e w1 ⟨rfl, hc1⟩
  have hsz := hc1.size
  have hB : w.heap.size < w1.heap.size := by simp at hsz; omega
  have b0 : w1.cell? ⟨w.heap.size, 0, none⟩ = some (.int .i64 y') := hc1.cell (by simp) (fun h => h)
  have b1 : w1.cell? ⟨w.heap.size, 1, none⟩ = some (.int .i64 a') := hc1.cell (by simp) (fun h => h)
  have b2 : w1.cell? ⟨w.heap.size, 2, none⟩ = some (.string z') := hc1.cell (by simp) (fun h => h)
  obtain ⟨B, hBe⟩ : ∃ B, w.heap.size = B := ⟨_, rfl⟩
  rw [hBe] at b0 b1 b2 hB hTlt ⊢
  have hT1 : ¬ T = w1.heap.size := by omega
  have hT2 : ¬ B = w1.heap.size := by omega
  have hT3 : ¬ w1.heap.size = B := by omega
  have hT4 : ¬ w1.heap.size = T := by omega
  obtain ⟨h0, h1, h2, h3, f0, f1, f2, f3⟩ := (h.chg ((Chg.refl (fun _ => False) w).alloc (.cells #[.int .i64 y', .int .i64 a', .string z'] 60)) (fun h => h)).chg hc1 (fun h => h)
  have hk16 : (k : Int) < 16 := by omega
  have hk0 : (0 : Int) ≤ (k : Int) := by omega
  have hTB : ¬ T = B := by omega
  have hTB' : ¬ B = T := by omega
  rw [rep]
  go_wp2_with fail
  have hdr : ((w1.alloc (.cells #[.int .i64 0, .int .i64 0, .string ⟨#[]⟩] 60)).drew).cell? ⟨B, 0, none⟩ = some (.int .i64 y') ∧ ((w1.alloc (.cells #[.int .i64 0, .int .i64 0, .string ⟨#[]⟩] 60)).drew).cell? ⟨B, 1, none⟩ = some (.int .i64 a') ∧ ((w1.alloc (.cells #[.int .i64 0, .int .i64 0, .string ⟨#[]⟩] 60)).drew).cell? ⟨B, 2, none⟩ = some (.string z') := by go_keep
  clear h0 h1 h2 h3 f0 f1 f2 f3
  obtain ⟨h0, h1, h2, h3, f0, f1, f2, f3⟩ := ((h.chg ((Chg.refl (fun _ => False) w).alloc (.cells #[.int .i64 y', .int .i64 a', .string z'] 60)) (fun h => h)).chg hc1 (fun h => h)).chg (((Chg.refl (fun _ => False) w1).alloc (.cells #[.int .i64 0, .int .i64 0, .string ⟨#[]⟩] 60)).drew) (fun h => h)
  obtain ⟨g0, g1, g2, g3, e0, e1, e2, e3⟩ := ((h.chg ((Chg.refl (fun _ => False) w).alloc (.cells #[.int .i64 y', .int .i64 a', .string z'] 60)) (fun h => h)).chg hc1 (fun h => h)).chg (((Chg.refl (fun _ => False) w1).alloc (.cells #[.int .i64 0, .int .i64 0, .string ⟨#[]⟩] 60))) (fun h => h)
  refine wp_region_held_drew (S := fun wx => wx.cell? ⟨B, 0, none⟩ = some (.int .i64 y') ∧ wx.cell? ⟨B, 1, none⟩ = some (.int .i64 a') ∧ wx.cell? ⟨B, 2, none⟩ = some (.string z')) (by kernel_rfl) hdr (fun hHeld => ?_)
  refine take_at (i := 0) (some 20) (v := ?_) rfl rfl (by kernel_rfl) (by kernel_rfl) (by kernel_rfl) (fun _ _ _ h => h) (Or.inl ⟨by rfl, ?_⟩) (by assumption) ?_
  rotate_left
  · (intro wx hSw; go_simp; try (with_reducible rfl))
  try simp only [Act.put, List.setIfInBounds_toArray, List.set_cons_zero, List.set_cons_succ]
  refine take_at (i := 1) (some 21) (v := ?_) rfl rfl (by kernel_rfl) (by kernel_rfl) (by kernel_rfl) (fun _ _ _ h => h) (Or.inl ⟨by rfl, ?_⟩) (by assumption) ?_
  rotate_left
  · (intro wx hSw; go_simp; try (with_reducible rfl))
  try simp only [Act.put, List.setIfInBounds_toArray, List.set_cons_zero, List.set_cons_succ]
  refine take_at (i := 2) (some 22) (v := ?_) rfl rfl (by kernel_rfl) (by kernel_rfl) (by kernel_rfl) (fun _ _ _ h => h) (Or.inl ⟨by rfl, ?_⟩) (by assumption) ?_
  rotate_left
  · (intro wx hSw; go_simp; try (with_reducible rfl))
  try simp only [Act.put, List.setIfInBounds_toArray, List.set_cons_zero, List.set_cons_succ]
  refine take_at (i := 3) (some 23) (v := ?_) rfl rfl (by kernel_rfl) (by kernel_rfl) (by kernel_rfl) (fun _ _ _ h => h) (Or.inl ⟨by rfl, ?_⟩) (by assumption) ?_
  rotate_left
  · (intro wx hSw; go_simp; try (with_reducible rfl))
  try simp only [Act.put, List.setIfInBounds_toArray, List.set_cons_zero, List.set_cons_succ]
  refine take_at (i := 4) (some 24) (v := ?_) rfl rfl (by kernel_rfl) (by kernel_rfl) (by kernel_rfl) (fun _ _ _ h => h) (Or.inl ⟨by rfl, ?_⟩) (by assumption) ?_
  rotate_left
  · (intro wx hSw; go_simp; try (with_reducible rfl))
  try simp only [Act.put, List.setIfInBounds_toArray, List.set_cons_zero, List.set_cons_succ]
  refine take_at (i := 5) (some 25) (v := ?_) rfl rfl (by kernel_rfl) (by kernel_rfl) (by kernel_rfl) (fun _ _ _ h => h) (Or.inl ⟨by rfl, ?_⟩) (by assumption) ?_
  rotate_left
  · (intro wx hSw; go_simp; try (with_reducible rfl))
  try simp only [Act.put, List.setIfInBounds_toArray, List.set_cons_zero, List.set_cons_succ]
  refine take_at (i := 6) (some 26) (v := ?_) rfl rfl (by kernel_rfl) (by kernel_rfl) (by kernel_rfl) (fun _ _ _ h => h) (Or.inl ⟨by rfl, ?_⟩) (by assumption) ?_
  rotate_left
  · (intro wx hSw; go_simp; try (with_reducible rfl))
  try simp only [Act.put, List.setIfInBounds_toArray, List.set_cons_zero, List.set_cons_succ]
  refine take_at (i := 7) (some 27) (v := ?_) rfl rfl (by kernel_rfl) (by kernel_rfl) (by kernel_rfl) (fun _ _ _ h => h) (Or.inl ⟨by rfl, ?_⟩) (by assumption) ?_
  rotate_left
  · (intro wx hSw; go_simp; try (with_reducible rfl))
  try simp only [Act.put, List.setIfInBounds_toArray, List.set_cons_zero, List.set_cons_succ]
  refine wpAnyH_ready (rs := [8]) (by kernel_rfl) (by simp) ?_
  refine AllReadyH.cons rfl (fun K hK => ?_) AllReadyH.nil
  go_simp
  refine hK.out _ _ ?_ (fun hHeld => ?_)
  · (go_keep)
  clear hK K
  try simp only [Act.put, List.setIfInBounds_toArray, List.set_cons_zero, List.set_cons_succ]
  refine wpAnyH_done (by kernel_rfl) ?_ _
  go_wp2_with fail
  go_ret
  have hch : Chg (fun _ => False) w (w1.alloc (.cells #[.int .i64 0, .int .i64 0, .string ⟨#[]⟩] 60)) := (((Chg.refl (fun _ => False) w).alloc _).trans hc1 (fun _ _ h => h)).alloc _
  exact ⟨rfl, ((ht.keep hch).put hk ⟨q, y', a', z'⟩).keep ((Chg.refl (fun _ => False) _).drew), (put_chg (q := q) (y := y') (a := a') (z := z') (k := k) (hch.mono (fun _ _ h => h.elim))).drew⟩
end Go.Proofs.Ytiibkbkcncmjoaa
