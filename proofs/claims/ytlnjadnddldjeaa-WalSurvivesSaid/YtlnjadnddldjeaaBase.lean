/-
  Words on memory and laws of the builtins for the walks of this seat: which blocks a call may have changed, a slice that reads as a list, a slice whose array the code owns; append, copy, make and the conversions between bytes and strings over them. No condition: these hold over any program.
-/
import Derived.WalkKit
import Derived.Lib.Hide
import Derived.Lib.AppendStr
import Derived.Laws.CopyOwn
import Derived.Deep.Draws
import Derived.KernelRfl
namespace Go.Proofs.Ytlnjadnddldjeaa
open Go.RowKit

/-- From w to w' at most the blocks in T, and new ones, have changed. -/
structure Chg (T : Nat → Prop) (w w' : World) : Prop where
  os : w'.os = w.os
  tape : w'.tape = w.tape
  output : w'.output = w.output
  size : w.heap.size ≤ w'.heap.size
  block : ∀ k, k < w.heap.size → ¬ T k → w'.heap[k]? = w.heap[k]?

namespace Chg
variable {T T' : Nat → Prop} {a b c w w' : World}
theorem refl (T : Nat → Prop) (w : World) : Chg T w w := ⟨rfl, rfl, rfl, Nat.le_refl _, fun _ _ _ => rfl⟩
theorem trans (h : Chg T a b) (k : Chg T' b c) (hs : ∀ i, i < a.heap.size → T' i → T i) : Chg T a c :=
  ⟨k.os.trans h.os, k.tape.trans h.tape, k.output.trans h.output, Nat.le_trans h.size k.size,
    fun i hi hn => (k.block i (Nat.lt_of_lt_of_le hi h.size) (fun ht => hn (hs i hi ht))).trans (h.block i hi hn)⟩
theorem mono (h : Chg T a b) (hs : ∀ i, i < a.heap.size → T i → T' i) : Chg T' a b :=
  ⟨h.os, h.tape, h.output, h.size, fun i hi hn => h.block i hi fun ht => hn (hs i hi ht)⟩
theorem drew (h : Chg T a w) : Chg T a w.drew := ⟨h.os, h.tape, h.output, h.size, h.block⟩
theorem drewN (h : Chg T a w) (n : Nat) : Chg T a (w.drewN n) := ⟨h.os, h.tape, h.output, h.size, h.block⟩
theorem alloc (h : Chg T a w) (o : Obj) : Chg T a (w.alloc o) :=
  h.trans (T' := T) ⟨rfl, rfl, rfl, by simp, fun k hk _ => by
    show (w.heap.push o)[k]? = _
    rw [Array.getElem?_push, if_neg (Nat.ne_of_lt hk)]⟩ fun _ _ ht => ht
theorem setCell (h : Chg T a w) {p : Addr} (hp : T p.block ∨ a.heap.size ≤ p.block) (u : Value) : Chg T a (w.setCell p u) :=
  h.trans (T' := fun k => k = p.block) ⟨rfl, rfl, rfl, by simp, fun k _ hn => heap_setCell_other w p k u hn⟩ fun i hi ht => by
    rcases hp with hp | hp
    · rw [ht]; exact hp
    · omega
theorem setRow (h : Chg T a w) {g : Nat} (hp : T g ∨ a.heap.size ≤ g) (cs : Array Value) : Chg T a (w.setRow g cs) :=
  h.trans (T' := fun k => k = g) ⟨rfl, rfl, rfl, by simp, fun k _ hn => setRow_other w g k cs hn⟩ fun i hi ht => by
    rcases hp with hp | hp
    · rw [ht]; exact hp
    · omega
theorem grown {row : Option Nat} (h : Chg T a w) (hg : w.grownBy w' row) (hr : ∀ k, row = some k → T k ∨ a.heap.size ≤ k) : Chg T a w' :=
  h.trans (T' := fun k => row = some k) ⟨hg.os, hg.tape, hg.output, hg.size, fun k hk hn => hg.block k hk (fun e => hn e.symm)⟩ fun i hi ht => by
    rcases hr i ht with h1 | h1
    · exact h1
    · omega
theorem below (h : Chg T w w') {B : Nat} (hB : B ≤ w.heap.size) (ht : ∀ k, k < B → ¬ T k) : Below B w w' :=
  ⟨h.os, h.tape, h.output, h.size, fun k hk => h.block k (Nat.lt_of_lt_of_le hk hB) (ht k hk)⟩
theorem of_below {B : Nat} (h : Below B w w') : Chg (fun k => B ≤ k) w w' :=
  ⟨h.os, h.tape, h.output, h.size, fun k _ hn => h.block k (by omega)⟩
theorem cell (h : Chg T w w') {p : Addr} {u : Value} (hc : w.cell? p = some u) (hn : ¬ T p.block) : w'.cell? p = some u :=
  (World.cell?_of_block (w := w) (h.block p.block (World.block_lt_of_cell? w p hc) hn)).trans hc
theorem heap (h : Chg T w w') {k : Nat} {o : Obj} (hk : w.heap[k]? = some o) (hn : ¬ T k) : w'.heap[k]? = some o :=
  (h.block k (lt_of_block hk) hn).trans hk
theorem one (w : World) (p : Addr) (u : Value) : Chg (fun k => k = p.block) w (w.setCell p u) := setCell (T := fun k => k = p.block) (refl _ w) (Or.inl (Eq.refl p.block)) u
theorem setIn (h : Chg T a w) {D : Nat} (hD : T D) (j : Nat) (u : Value) : Chg T a (w.setCell ⟨D, j, none⟩ u) := h.setCell (p := ⟨D, j, none⟩) (Or.inl hD) u
theorem setNew (h : Chg T a w) {D : Nat} (hD : a.heap.size ≤ D) (j : Nat) (u : Value) : Chg T a (w.setCell ⟨D, j, none⟩ u) := h.setCell (p := ⟨D, j, none⟩) (Or.inr hD) u
end Chg

theorem add_lit' (b o j : Nat) : (⟨b, o, none⟩ : Addr).add j = ⟨b, o + j, none⟩ := by unfold Addr.add; split <;> simp_all

/-- The slice of address A and length n reads as the cells xs; they lie in a block that is in S. -/
def Cs (w : World) (S : Nat → Prop) (A : Option Addr) (n : Nat) (xs : List Value) : Prop :=
  xs.length = n ∧ (0 < n → ∃ b off, A = some ⟨b, off, none⟩ ∧ S b ∧ ∀ j u, xs[j]? = some u → w.cell? ⟨b, off + j, none⟩ = some u)

namespace Cs
variable {w w' : World} {S S' T : Nat → Prop} {A : Option Addr} {n : Nat} {xs : List Value}
theorem none_ : Cs w S A 0 [] := ⟨rfl, fun h => absurd h (by omega)⟩
theorem chg (h : Cs w S A n xs) (hc : Chg T w w') (hd : ∀ k, k < w.heap.size → S k → ¬ T k) : Cs w' S A n xs :=
  ⟨h.1, fun hn => by
    obtain ⟨b, off, e, hs, hcell⟩ := h.2 hn
    refine ⟨b, off, e, hs, fun j u hu => hc.cell (hcell j u hu) ?_⟩
    exact hd b (World.block_lt_of_cell? w _ (hcell j u hu)) hs⟩
theorem mono (h : Cs w S A n xs) (hs : ∀ k, k < w.heap.size → S k → S' k) : Cs w S' A n xs :=
  ⟨h.1, fun hn => by
    obtain ⟨b, off, e, h1, hcell⟩ := h.2 hn
    have hl : 0 < xs.length := by have := h.1; omega
    exact ⟨b, off, e, hs b (World.block_lt_of_cell? w _ (hcell 0 _ (List.getElem?_eq_getElem hl))) h1, hcell⟩⟩
theorem drew (h : Cs w S A n xs) : Cs w.drew S A n xs := h
theorem drewN (h : Cs w S A n xs) (k : Nat) : Cs (w.drewN k) S A n xs := h
theorem take (h : Cs w S A n xs) {k : Nat} (hk : k ≤ n) : Cs w S A k (xs.take k) :=
  ⟨by rw [List.length_take, h.1]; omega, fun hn => by
    obtain ⟨b, off, e, hs, hcell⟩ := h.2 (by omega)
    refine ⟨b, off, e, hs, fun j u hu => hcell j u ?_⟩
    rw [List.getElem?_take] at hu
    split at hu
    · exact hu
    · cases hu⟩
/-- 's[k:]': the model keeps the old address where k is the capacity. -/
theorem drop (h : Cs w S A n xs) {k cap : Nat} (hk : k ≤ n) (hc : n ≤ cap) : Cs w S (if cap = k then A else A.map (·.add k)) (n - k) (xs.drop k) := by
  refine ⟨by rw [List.length_drop, h.1], fun hn => ?_⟩
  obtain ⟨b, off, rfl, hs, hcell⟩ := h.2 (by omega)
  rw [if_neg (by omega)]
  refine ⟨b, off + k, by simp [add_lit'], hs, fun j u hu => ?_⟩
  rw [Nat.add_assoc]
  exact hcell _ u (by rw [← hu, List.getElem?_drop])
theorem cellAt (h : Cs w S A n xs) {b off : Nat} (e : A = some ⟨b, off, none⟩) {j : Nat} {u : Value} (hu : xs[j]? = some u) : w.cell? ⟨b, off + j, none⟩ = some u := by
  have hl : j < xs.length := (List.getElem?_eq_some_iff.1 hu).1
  obtain ⟨b', off', e', _, hcell⟩ := h.2 (by have := h.1; omega)
  rw [e] at e'
  injection e' with e'
  injection e' with e1 e2
  subst e1; subst e2
  exact hcell j u hu
theorem loads {P : Program} (h : Cs w S A n xs) (c : Nat) : (Builtin.firstCells 1 n (.slice A n c)).run P w = .ok xs.toArray w := by
  by_cases hn : 0 < n
  · obtain ⟨b, off, rfl, _, hcell⟩ := h.2 hn
    exact run_firstCells_some (P := P) w 1 n _ n c xs (by rw [h.1, Nat.mul_one]) fun j u hu => by rw [add_lit']; exact hcell j u hu
  · have h0 : n = 0 := by omega
    subst h0
    have hx : xs = [] := List.eq_nil_of_length_eq_zero h.1
    subst hx
    cases A <;> simp [Builtin.firstCells, loadCells, loadCellsFrom]
end Cs

/-- The slice (A, n, cap) reads as xs, and its array up to cap is the code's own: block own, whole, nothing of it frozen. Without capacity it owns nothing. -/
def Own (w : World) (e : TypeId) (own : Option Nat) (A : Option Addr) (n cap : Nat) (xs : List Value) : Prop :=
  xs.length = n ∧ n ≤ cap ∧ ((own = none ∧ cap = 0) ∨ ∃ g cur, own = some g ∧ A = some ⟨g, 0, none⟩ ∧ w.heap[g]? = some (.cells cur e (0, 0)) ∧ cap ≤ cur.size ∧ cap ≤ maxLen ∧ cur.toList.take n = xs)

namespace Own
variable {w w' : World} {T : Nat → Prop} {e : TypeId} {own : Option Nat} {A : Option Addr} {n cap : Nat} {xs : List Value}
theorem nil_ (w : World) (e : TypeId) (A : Option Addr) : Own w e none A 0 0 [] := ⟨rfl, Nat.le_refl _, .inl ⟨rfl, rfl⟩⟩
theorem len (h : Own w e own A n cap xs) : xs.length = n := h.1
theorem fits (h : Own w e own A n cap xs) : n ≤ cap := h.2.1
theorem capMax (h : Own w e own A n cap xs) : cap ≤ 9223372036854775807 := by
  rcases h.2.2 with ⟨_, h0⟩ | ⟨_, _, _, _, _, _, hm, _⟩
  · omega
  · simpa [maxLen] using hm
theorem lt (h : Own w e own A n cap xs) {g : Nat} (hg : own = some g) : g < w.heap.size := by
  rcases h.2.2 with ⟨h0, _⟩ | ⟨g', cur, h0, _, hh, _⟩
  · rw [h0] at hg; cases hg
  · rw [h0] at hg; injection hg with hg; subst hg; exact lt_of_block hh
/-- a block of another element type, or of a shape of its own, is not the owned one -/
theorem ne_ (h : Own w e own A n cap xs) {k : Nat} {t : TypeId} {cs : Array Value} {fr : Nat × Nat} (hk : w.heap[k]? = some (.cells cs t fr)) (ht : t ≠ e) : own ≠ some k := by
  intro hg
  rcases h.2.2 with ⟨h0, _⟩ | ⟨g', cur, h0, _, hh, _⟩
  · rw [h0] at hg; cases hg
  · rw [h0] at hg; injection hg with hg; subst hg
    rw [hk] at hh
    injection hh with hh
    injection hh with _ hh _
    exact ht hh
theorem chg (h : Own w e own A n cap xs) (hc : Chg T w w') (hd : ∀ k, own = some k → ¬ T k) : Own w' e own A n cap xs := by
  refine ⟨h.1, h.2.1, ?_⟩
  rcases h.2.2 with h0 | ⟨g, cur, h0, hA, hh, r⟩
  · exact .inl h0
  · exact .inr ⟨g, cur, h0, hA, hc.heap hh (hd g h0), r⟩
theorem drew (h : Own w e own A n cap xs) : Own w.drew e own A n cap xs := h
theorem drewN (h : Own w e own A n cap xs) (k : Nat) : Own (w.drewN k) e own A n cap xs := h
theorem cs (h : Own w e own A n cap xs) : Cs w (fun k => own = some k) A n xs := by
  refine ⟨h.1, fun hn => ?_⟩
  rcases h.2.2 with ⟨_, h0⟩ | ⟨g, cur, h0, hA, hh, hcs, _, ht⟩
  · have := h.2.1; omega
  · refine ⟨g, 0, hA, h0, fun j u hu => ?_⟩
    rw [Nat.zero_add, cell_of_row w g j cur e (0, 0) hh]
    rw [← ht, List.getElem?_take] at hu
    split at hu
    · simpa using hu
    · cases hu
theorem cells (h : Own w e own A n cap xs) {j : Nat} {u : Value} (hu : xs[j]? = some u) : ∃ g, own = some g ∧ A = some ⟨g, 0, none⟩ ∧ w.cell? ⟨g, j, none⟩ = some u ∧ w.frozen? ⟨g, j, none⟩ = false := by
  have hl : j < xs.length := (List.getElem?_eq_some_iff.1 hu).1
  rcases h.2.2 with ⟨_, h0⟩ | ⟨g, cur, h0, hA, hh, hcs, _, ht⟩
  · have := h.2.1; have := h.1; omega
  · refine ⟨g, h0, hA, ?_, frozen_of_row w g j cur e hh⟩
    rw [cell_of_row w g j cur e (0, 0) hh]
    rw [← ht, List.getElem?_take] at hu
    split at hu
    · simpa using hu
    · cases hu
/-- A shorter cut of it. -/
theorem take (h : Own w e own A n cap xs) {k : Nat} (hk : k ≤ n) : Own w e own A k cap (xs.take k) := by
  refine ⟨by rw [List.length_take, h.1]; omega, by have := h.2.1; omega, ?_⟩
  rcases h.2.2 with h0 | ⟨g, cur, h0, hA, hh, hcs, hm, ht⟩
  · exact .inl h0
  · refine .inr ⟨g, cur, h0, hA, hh, hcs, hm, ?_⟩
    rw [← ht, List.take_take]
    congr 1
    omega
/-- A shorter cut, with its capacity cut too. -/
theorem takeCap (h : Own w e own A n cap xs) {k : Nat} (hk : k ≤ n) : Own w e own A k k (xs.take k) := by
  have h1 := h.take hk
  refine ⟨h1.1, Nat.le_refl _, ?_⟩
  rcases h1.2.2 with ⟨h0, hc⟩ | ⟨g, cur, h0, hA, hh, hcs, hm, ht⟩
  · exact .inl ⟨h0, by have := h.2.1; omega⟩
  · exact .inr ⟨g, cur, h0, hA, hh, by have := h.2.1; omega, by have := h.2.1; omega, ht⟩
/-- An element is stored. -/
theorem set (h : Own w e own A n cap xs) {g : Nat} (hg : own = some g) (j : Nat) (u : Value) : Own (w.setCell ⟨g, j, none⟩ u) e own A n cap (xs.set j u) := by
  refine ⟨by rw [List.length_set]; exact h.1, h.2.1, ?_⟩
  rcases h.2.2 with ⟨h0, _⟩ | ⟨g', cur, h0, hA, hh, hcs, hm, ht⟩
  · rw [h0] at hg; cases hg
  · rw [h0] at hg; injection hg with hg; subst hg
    refine .inr ⟨g', cur.setIfInBounds j u, h0, hA, heap_setCell_same w g' j cur e u hh, by simpa using hcs, hm, ?_⟩
    rw [Array.toList_setIfInBounds, ← ht, List.take_set]
theorem of_owns {base : Nat} {A : Option Addr} {v : Value} (hv : v = .slice A n cap) (h : w.ownsRow base e 1 v n xs) : ∃ own, Own w e own A n cap xs ∧ own = v.ownBlock ∧ ∀ g, own = some g → base ≤ g := by
  subst hv
  rcases h.2 with ⟨h0, hn⟩ | ⟨g, cap', cur, h0, hb, hh, hnc, hm, hs, ht⟩
  · injection h0 with e1 e2 e3
    subst e1; subst e3; subst hn
    refine ⟨none, ⟨by simpa using h.1, Nat.le_refl _, .inl ⟨rfl, rfl⟩⟩, rfl, fun g hg => by cases hg⟩
  · injection h0 with e1 e2 e3
    subst e1; subst e3
    refine ⟨some g, ⟨by simpa using h.1, hnc, .inr ⟨g, cur, rfl, rfl, hh, by omega, hm, by simpa using ht⟩⟩, rfl, fun k hk => by injection hk with hk; omega⟩
end Own

/-- What is appended or copied: its length and its cells, in w and behind a draw. -/
def Src (P : Program) (w : World) (x : Value) (news : List Value) : Prop :=
  (Builtin.lenOf x).run P w = .ok news.length w ∧ (Builtin.firstCells 1 news.length x).run P w = .ok news.toArray w ∧ (Builtin.firstCells 1 news.length x).run P w.drew = .ok news.toArray w.drew
theorem Src.slice {P : Program} {w : World} {S : Nat → Prop} {A : Option Addr} {n c : Nat} {xs : List Value} (h : Cs w S A n xs) : Src P w (.slice A n c) xs := by
  have h1 := h.loads (P := P) c
  have h2 := h.drew.loads (P := P) c
  have e := h.1
  subst e
  exact ⟨by simp [Builtin.lenOf], h1, h2⟩
theorem Src.string {P : Program} {w : World} (s : ByteArray) : Src P w (.string s) (Lib.strCells s) := by
  have e := Lib.strCells_length s
  exact ⟨by simp [Builtin.lenOf, e], by rw [e]; exact Lib.run_firstCells_string w 1 s, by rw [e]; exact Lib.run_firstCells_string w.drew 1 s⟩

/-- append onto what the code owns: room or not, nil or not. -/
theorem run_append {P : Program} {w : World} {t u ty e : TypeId} {i : TypeInfo} {z : Value} {by_ : Nat}
    (ht : P.underlying t = some (.slice e)) (hu : (∃ d, P.underlying u = some (.slice d)) ∨ P.underlying u = some .string)
    (hi : P.info? e = some i) (hz : i.zero = some z) (hsize : i.size = 1) (hby : i.bytes = by_) (hzs : z.cells.size = 1)
    {own : Option Nat} {A : Option Addr} {n cap : Nat} {xs news : List Value} {x : Value} (h : Own w e own A n cap xs) (hx : Src P w x news)
    (h1 : ∀ u ∈ news, u.oneCell' = true) (h63 : n + news.length ≤ 9223372036854775807) (hbytes : (n + news.length) * by_ ≤ 140737488355328) :
    ∃ own' A' cap' w', (Builtin.append_ #[t, u] ty #[.slice A n cap, x]).run P w = .ok (.slice A' (n + news.length) cap') w' ∧ Own w' e own' A' (n + news.length) cap' (xs ++ news) ∧
      (own' = own ∨ own' = some w.heap.size) ∧ Chg (fun k => own = some k) w w' := by
  subst hby
  have hxl := h.1
  have hsl : (xs ++ news).length = n + news.length := by rw [List.length_append, hxl]
  by_cases hroom : n + news.length ≤ cap
  · rcases h.2.2 with ⟨h0, hc⟩ | ⟨g, cur, h0, hA, hh, hcs, hm, htk⟩
    · have hn0 : news = [] := List.eq_nil_of_length_eq_zero (by omega)
      subst hn0
      refine ⟨own, A, cap, w, ?_, by simpa using h, .inl rfl, Chg.refl _ w⟩
      obtain ⟨l1, l2, _⟩ := hx
      simp only [List.length_nil, Nat.add_zero] at l1 l2 hroom ⊢
      rcases hu with ⟨d, hu⟩ | hu <;> cases A <;> simp [Builtin.append_, run_underlying ht, run_underlying hu, sizeOf, typeInfo, hi, hsize, l1, l2, hroom, storeCells]
    · subst hA
      have hst := run_storeCells_at P g n e news 0 cur w hh (by simp; omega) h1
      simp only [Nat.add_zero] at hst
      refine ⟨own, some ⟨g, 0, none⟩, cap, w.setRow g (cur.toList.take n ++ news ++ cur.toList.drop (n + news.length)).toArray, ?_, ?_, .inl rfl, (Chg.refl _ w).setRow (.inl h0) _⟩
      · obtain ⟨l1, l2, _⟩ := hx
        rcases hu with ⟨d, hu⟩ | hu <;> simp [Builtin.append_, run_underlying ht, run_underlying hu, sizeOf, typeInfo, hi, hsize, l1, l2, hroom, Addr.add_lit, hst]
      · refine ⟨hsl, hroom, .inr ⟨g, _, h0, rfl, setRow_heap w g cur _ e _ hh, ?_, hm, ?_⟩⟩
        · simp only [List.size_toArray, List.length_append, List.length_take, List.length_drop, Array.length_toList]
          omega
        · show List.take (n + news.length) (cur.toList.take n ++ news ++ cur.toList.drop (n + news.length)) = _
          rw [htk, ← hsl]
          exact List.take_left
  · have hge := grownCap_ge w (n + news.length) cap e
    have hcm : grownCap w (n + news.length) cap e ≤ maxLen := grownCap_le_maxLen w (n + news.length) cap e (by simp only [maxLen]; omega)
    have hn : ¬ (n + news.length ≤ cap) := hroom
    have h63' : ¬ (9223372036854775807 < ((n : Int) + (news.length : Int))) := by omega
    have hfit := growslice_fits (need := n + news.length) (old := cap) (bytes := i.bytes) (by omega) hbytes
    have h48' : ¬ (281474976710656 < Builtin.nextslicecap (n + news.length) cap * i.bytes) := by omega
    have hold : (Builtin.firstCells 1 n (.slice A n cap)).run P w.drew = .ok xs.toArray w.drew := h.cs.drew.loads cap
    refine ⟨some w.heap.size, some ⟨w.heap.size, 0, none⟩, grownCap w (n + news.length) cap e,
      w.drew.alloc (.cells (xs.toArray ++ news.toArray ++ Builtin.zeroCells z.cells (grownCap w (n + news.length) cap e - (n + news.length))) e), ?_, ?_, .inr rfl, ((Chg.refl _ w).drew).alloc _⟩
    · obtain ⟨l1, _, l3⟩ := hx
      rcases hu with ⟨d, hu⟩ | hu
      all_goals
        simp [Builtin.append_, run_underlying ht, run_underlying hu, sizeOf, typeInfo, zeroValue, hi, hz, hsize, l1, l3, hn, h63', h48', Question.forced, hold, newRow, grownCap]
        congr 2
        apply Array.ext'
        simp [List.append_assoc]
    · refine ⟨hsl, hge, .inr ⟨w.heap.size, _, rfl, rfl, heap_alloc_new w.drew _, ?_, hcm, ?_⟩⟩
      · simp only [Array.size_append, List.size_toArray, size_zeroCells, hzs, hxl]
        omega
      · simp only [Array.toList_append, List.append_assoc]
        rw [← List.append_assoc, ← hsl]
        exact List.take_left


/-- bytes as cells -/
def bv (l : List UInt8) : List Value := l.map fun b => Value.int .u8 (b.toNat : Int)
theorem bv_length (l : List UInt8) : (bv l).length = l.length := by simp [bv]
theorem bv_append (l r : List UInt8) : bv (l ++ r) = bv l ++ bv r := by simp [bv]
theorem bv_take (l : List UInt8) (k : Nat) : bv (l.take k) = (bv l).take k := by simp [bv]
theorem bv_drop (l : List UInt8) (k : Nat) : bv (l.drop k) = (bv l).drop k := by simp [bv]
theorem bv_one (l : List UInt8) : ∀ u ∈ bv l, u.oneCell' = true := by
  intro u hu
  simp only [bv, List.mem_map] at hu
  obtain ⟨b, _, rfl⟩ := hu
  rfl
theorem bv_get {l : List UInt8} {j : Nat} (hj : j < l.length) : (bv l)[j]? = some (.int .u8 (l[j].toNat : Int)) := by simp [bv, hj]
theorem bv_strCells (l : List UInt8) : Lib.strCells ⟨l.toArray⟩ = bv l := rfl
theorem bv_of_str (s : ByteArray) : Lib.strCells s = bv s.data.toList := rfl
/-- the string of these bytes -/
def str (l : List UInt8) : ByteArray := ⟨l.toArray⟩
theorem str_toList (l : List UInt8) : (str l).toList = l := ByteArray.toList_mk l
theorem str_size (l : List UInt8) : (str l).size = l.length := by simp [str, ByteArray.size]

theorem foldl_push (l : List UInt8) : (l.map fun b => (b.toNat : Int)).foldl (fun r n => r.push (UInt8.ofNat n.toNat)) ByteArray.empty = str l := by
  have h : ∀ (l : List UInt8) (s : ByteArray), (l.map fun b => (b.toNat : Int)).foldl (fun r n => r.push (UInt8.ofNat n.toNat)) s = ⟨s.data ++ l.toArray⟩ := by
    intro l
    induction l with
    | nil => intro s; simp
    | cons b l ih =>
      intro s
      rw [List.map_cons, List.foldl_cons, ih]
      simp [ByteArray.push]
  rw [h]
  simp [str, ByteArray.empty, ByteArray.emptyWithCapacity]
  rfl

/-- string(x) of a slice of bytes -/
theorem run_string {P : Program} {w : World} {src dst e : TypeId} (hs : P.underlying src = some (.slice e)) (he : P.underlying e = some (.int .u8)) (hd : P.underlying dst = some .string)
    {S : Nat → Prop} {A : Option Addr} {n c : Nat} {l : List UInt8} (h : Cs w S A n (bv l)) : (convert src dst (.slice A n c)).run P w = .ok (.string (str l)) w := by
  rw [run_convert_bytes_string w src dst e _ n c hs he hd]
  have hl : l.length = n := by rw [← bv_length]; exact h.1
  cases A with
  | none =>
    have hn : n = 0 := by
      rcases Nat.eq_zero_or_pos n with h0 | h0
      · exact h0
      · obtain ⟨_, _, e, _⟩ := h.2 h0; cases e
    have hl0 : l = [] := List.eq_nil_of_length_eq_zero (by omega)
    subst hl0
    simp [Conv.bytesToString, str, ByteArray.empty, ByteArray.emptyWithCapacity]
    rfl
  | some ad =>
    have hload : (loadCells ad n).run P w = .ok ((l.map fun b => (b.toNat : Int)).map (Value.int .u8)).toArray w := by
      have h1 := h.loads (P := P) c
      simp only [Builtin.firstCells, Nat.mul_one] at h1
      rw [h1]
      simp [bv, List.map_map, Function.comp_def]
    rw [run_bytesToString w ad n c _ hload, foldl_push]

section ops
variable {P : Program} {ops : Array Oper} {rest : List Oper} {o : Oper} {a : Act} {w : World} {Q : Exit → Act → World → Prop} {K : Act → World → Prop} {E : Prop}

theorem wp_value {v : Value} {w' : World} (hrun : (execOp a.eval o).run P w = .ok (.value v) w') (hk : K (a.put o.dst v) w') : o.wp P a w K Q := by
  unfold Oper.wp
  rw [hrun]
  exact hk
theorem wpList_value {v : Value} {w' : World} (hgd : o.guard = none) (hrun : (execOp a.eval o).run P w = .ok (.value v) w') (hk : wpList P ops Q rest (a.put o.dst v) w') : wpList P ops Q (o :: rest) a w :=
  wpList_plain hgd fun _ hK => wp_value hrun (hK _ _ hk)
theorem step_value {v : Value} {w' : World} (hgd : o.guard = none) (hrun : (execOp a.eval o).run P w = .ok (.value v) w') (hk : K (a.put o.dst v) w') :
    if Region.wanted o (yielded ops a.tmps) = true then Oper.wp P o a w K Q else E := by
  rw [if_pos (by simp [Region.wanted, hgd])]
  exact wp_value hrun hk

theorem exec_append {ρ : Operand → Value} {s x : Operand} {t u : TypeId} (ho : o.op = .call { callee := .builtin .append, args := #[s, x], argTypes := #[t, u] }) {v : Value} {w' : World}
    (h : (Builtin.append_ #[t, u] o.type #[ρ s, ρ x]).run P w = .ok v w') : (execOp ρ o).run P w = .ok (.value v) w' := by
  unfold execOp
  simp only [ho, resolve, invoke, builtin, Sem.run_bind, Sem.run_pure, Result.andThen_ok, List.map_toArray, List.map_cons, List.map_nil, h]
theorem exec_convert {ρ : Operand → Value} {x : Operand} {src dst : TypeId} (ho : o.op = .convert src dst x) {v : Value} {w' : World}
    (h : (convert src dst (ρ x)).run P w = .ok v w') : (execOp ρ o).run P w = .ok (.value v) w' := by
  unfold execOp
  simp only [ho, Sem.run_bind, Sem.run_pure, Result.andThen_ok, h]

/-- what an append needs to know of its types -/
structure AppT (P : Program) (t u e : TypeId) (by_ : Nat) : Prop where
  ht : P.underlying t = some (.slice e)
  hu : (∃ d, P.underlying u = some (.slice d)) ∨ P.underlying u = some .string
  hi : ∃ i z, P.info? e = some i ∧ i.zero = some z ∧ i.size = 1 ∧ i.bytes = by_ ∧ z.cells.size = 1

theorem run_append' {t u ty e : TypeId} {by_ : Nat} (T : AppT P t u e by_)
    {own : Option Nat} {A : Option Addr} {n cap : Nat} {xs news : List Value} {x : Value} (h : Own w e own A n cap xs) (hx : Src P w x news)
    (h1 : ∀ u ∈ news, u.oneCell' = true) (h63 : n + news.length ≤ 9223372036854775807) (hbytes : (n + news.length) * by_ ≤ 140737488355328) :
    ∃ own' A' cap' w', (Builtin.append_ #[t, u] ty #[.slice A n cap, x]).run P w = .ok (.slice A' (n + news.length) cap') w' ∧ Own w' e own' A' (n + news.length) cap' (xs ++ news) ∧
      (own' = own ∨ own' = some w.heap.size) ∧ Chg (fun k => own = some k) w w' := by
  obtain ⟨ht, hu, ⟨i, z, hi, hz, hs, hb, hzs⟩⟩ := T
  exact run_append ht hu hi hz hs hb hzs h hx h1 h63 hbytes

theorem wpList_append (hgd : o.guard = none) (s x : Operand) (t u : TypeId) (ho : o.op = .call { callee := .builtin .append, args := #[s, x], argTypes := #[t, u] })
    (e : TypeId) (by_ : Nat) (T : AppT P t u e by_) (own : Option Nat) (A : Option Addr) (n cap : Nat) (xs news : List Value) (xv : Value)
    (hs : a.eval s = .slice A n cap) (hxv : a.eval x = xv) (h : Own w e own A n cap xs) (hx : Src P w xv news)
    (h1 : ∀ u ∈ news, u.oneCell' = true) (N : Nat) (hN : n + news.length = N) (h63 : N ≤ 9223372036854775807) (hbytes : N * by_ ≤ 140737488355328)
    (k : ∀ own' A' cap' w', Own w' e own' A' N cap' (xs ++ news) → (own' = own ∨ own' = some w.heap.size) → Chg (fun k => own = some k) w w' → wpList P ops Q rest (a.put o.dst (.slice A' N cap')) w') :
    wpList P ops Q (o :: rest) a w := by
  subst hN
  obtain ⟨own', A', cap', w', hr, h2, h3, h4⟩ := run_append' (ty := o.type) T h hx h1 h63 hbytes
  exact wpList_value hgd (exec_append ho (by rw [hs, hxv]; exact hr)) (k own' A' cap' w' h2 h3 h4)
theorem step_append (hgd : o.guard = none) (s x : Operand) (t u : TypeId) (ho : o.op = .call { callee := .builtin .append, args := #[s, x], argTypes := #[t, u] })
    (e : TypeId) (by_ : Nat) (T : AppT P t u e by_) (own : Option Nat) (A : Option Addr) (n cap : Nat) (xs news : List Value) (xv : Value)
    (hs : a.eval s = .slice A n cap) (hxv : a.eval x = xv) (h : Own w e own A n cap xs) (hx : Src P w xv news)
    (h1 : ∀ u ∈ news, u.oneCell' = true) (N : Nat) (hN : n + news.length = N) (h63 : N ≤ 9223372036854775807) (hbytes : N * by_ ≤ 140737488355328)
    (k : ∀ own' A' cap' w', Own w' e own' A' N cap' (xs ++ news) → (own' = own ∨ own' = some w.heap.size) → Chg (fun k => own = some k) w w' → K (a.put o.dst (.slice A' N cap')) w') :
    if Region.wanted o (yielded ops a.tmps) = true then Oper.wp P o a w K Q else E := by
  subst hN
  obtain ⟨own', A', cap', w', hr, h2, h3, h4⟩ := run_append' (ty := o.type) T h hx h1 h63 hbytes
  exact step_value hgd (exec_append ho (by rw [hs, hxv]; exact hr)) (k own' A' cap' w' h2 h3 h4)
theorem wpList_string (hgd : o.guard = none) (x : Operand) (src dst e : TypeId) (ho : o.op = .convert src dst x)
    (hs : P.underlying src = some (.slice e)) (he : P.underlying e = some (.int .u8)) (hd : P.underlying dst = some .string)
    (S : Nat → Prop) (A : Option Addr) (n c : Nat) (l : List UInt8) (hx : a.eval x = .slice A n c) (h : Cs w S A n (bv l))
    (k : wpList P ops Q rest (a.put o.dst (.string (str l))) w) : wpList P ops Q (o :: rest) a w :=
  wpList_value hgd (exec_convert ho (by rw [hx]; exact run_string hs he hd h)) k

theorem exec_copy {ρ : Operand → Value} {s x : Operand} {t u : TypeId} (ho : o.op = .call { callee := .builtin .copy, args := #[s, x], argTypes := #[t, u] }) {v : Value} {w' : World}
    (h : (Builtin.copy_ #[t, u] o.type #[ρ s, ρ x]).run P w = .ok v w') : (execOp ρ o).run P w = .ok (.value v) w' := by
  unfold execOp
  simp only [ho, resolve, invoke, builtin, Sem.run_bind, Sem.run_pure, Result.andThen_ok, List.map_toArray, List.map_cons, List.map_nil, h]

/-- copy into what the code owns, no more than fits -/
theorem run_copy {t u ty e : TypeId} {by_ : Nat} (T : AppT P t u e by_) {own : Option Nat} {A : Option Addr} {n cap : Nat} {xs news : List Value} {x : Value}
    (h : Own w e own A n cap xs) (hx : Src P w x news) (h1 : ∀ u ∈ news, u.oneCell' = true) (hfit : news.length ≤ n) :
    ∃ w', (Builtin.copy_ #[t, u] ty #[.slice A n cap, x]).run P w = .ok (.int .i64 news.length) w' ∧ Own w' e own A n cap (news ++ xs.drop news.length) ∧ Chg (fun k => own = some k) w w' := by
  obtain ⟨ht, hu, ⟨i, z, hi, hz, hs, hb, hzs⟩⟩ := T
  obtain ⟨l1, l2, _⟩ := hx
  have hmin : Nat.min news.length n = news.length := Nat.min_eq_left hfit
  have hmin' : min news.length n = news.length := Nat.min_eq_left hfit
  rcases h.2.2 with ⟨h0, hc⟩ | ⟨g, cur, h0, hA, hh, hcs, hm, htk⟩
  · have hn0 : news = [] := List.eq_nil_of_length_eq_zero (by have := h.2.1; omega)
    subst hn0
    refine ⟨w, ?_, by simpa using h, Chg.refl _ w⟩
    simp only [List.length_nil] at l1 l2 hmin hmin' ⊢
    rcases hu with ⟨d, hu⟩ | hu <;> cases A <;> simp [Builtin.copy_, run_underlying ht, sizeOf, typeInfo, hi, hs, l1, l2, storeCells, goInt]
  · subst hA
    have hst := run_storeCells_at P g 0 e news 0 cur w hh (by have := h.2.1; omega) h1
    simp only [Nat.add_zero, Nat.zero_add, List.take_zero, List.nil_append] at hst
    refine ⟨w.setRow g (news ++ cur.toList.drop news.length).toArray, ?_, ?_, (Chg.refl _ w).setRow (.inl h0) _⟩
    · rcases hu with ⟨d, hu⟩ | hu <;> simp [Builtin.copy_, run_underlying ht, sizeOf, typeInfo, hi, hs, l1, hmin', l2, hst, goInt]
    · have hxl := h.1
      refine ⟨by rw [List.length_append, List.length_drop]; omega, h.2.1, .inr ⟨g, _, h0, rfl, setRow_heap w g cur _ e _ hh, ?_, hm, ?_⟩⟩
      · have := h.2.1
        simp only [List.size_toArray, List.length_append, List.length_drop, Array.length_toList]
        omega
      · show List.take n (news ++ cur.toList.drop news.length) = _
        rw [List.take_append, List.take_of_length_le hfit, ← htk, List.drop_take]
theorem wpList_copy (hgd : o.guard = none) (s x : Operand) (t u : TypeId) (ho : o.op = .call { callee := .builtin .copy, args := #[s, x], argTypes := #[t, u] })
    (e : TypeId) (by_ : Nat) (T : AppT P t u e by_) (own : Option Nat) (A : Option Addr) (n cap : Nat) (xs news : List Value) (xv : Value)
    (hs : a.eval s = .slice A n cap) (hxv : a.eval x = xv) (h : Own w e own A n cap xs) (hx : Src P w xv news)
    (h1 : ∀ u ∈ news, u.oneCell' = true) (hfit : news.length ≤ n)
    (k : ∀ w', Own w' e own A n cap (news ++ xs.drop news.length) → Chg (fun k => own = some k) w w' → wpList P ops Q rest (a.put o.dst (.int .i64 news.length)) w') :
    wpList P ops Q (o :: rest) a w := by
  obtain ⟨w', hr, h2, h3⟩ := run_copy (ty := o.type) T h hx h1 hfit
  exact wpList_value hgd (exec_copy ho (by rw [hs, hxv]; exact hr)) (k w' h2 h3)

/-- make([]T, n) of one-cell elements -/
theorem exec_make {ρ : Operand → Value} {l c : Operand} {t : TypeId} (ho : o.op = .makeSlice t l c) {v : Value} {w' : World}
    (h : (Instr.makeSlice t (ρ l) (ρ c)).run P w = .ok v w') : (execOp ρ o).run P w = .ok (.value v) w' := by
  unfold execOp
  simp only [ho, Sem.run_bind, Sem.run_pure, Result.andThen_ok, h]
theorem wpList_make (hgd : o.guard = none) (l c : Operand) (t : TypeId) (ho : o.op = .makeSlice t l c) (e : TypeId) (z : Value) (by_ : Nat)
    (ht : P.underlying t = some (.slice e)) (hi0 : (P.info? e).map (fun i => (i.zero, i.size, i.bytes)) = some (some z, 1, by_)) (hzs : z.cells = #[z])
    (kl kc : IntKind) (L C : Int) (n : Nat) (hl : a.eval l = .int kl L) (hc : a.eval c = .int kc C) (hL : L = (n : Int)) (hC : C = (n : Int)) (b2 : by_ * n ≤ 281474976710656) (b3 : n ≤ 9223372036854775807)
    (k : ∀ w', Own w' e (some w.heap.size) (some ⟨w.heap.size, 0, none⟩) n n (List.replicate n z) → Chg (fun _ => False) w w' → w'.heap.size = w.heap.size + 1 → wpList P ops Q rest (a.put o.dst (.slice (some ⟨w.heap.size, 0, none⟩) n n)) w') :
    wpList P ops Q (o :: rest) a w := by
  obtain ⟨i, hi, hz, hs, hb⟩ := info_parts hi0
  clear hi0
  subst hL
  subst hC
  subst hb
  have hb' : (i.bytes : Int) * (n : Int) ≤ 281474976710656 := by
    have h : ((i.bytes * n : Nat) : Int) ≤ 281474976710656 := by omega
    rwa [Int.natCast_mul] at h
  have hr := run_make (P := P) w t e i z ht hi hz kl kc n n (by omega) (Int.le_refl _) hb' (by omega)
  simp only [Int.toNat_natCast, hs, Nat.mul_one, hzs] at hr
  refine wpList_value hgd (exec_make ho (by rw [hl, hc]; exact hr)) (k _ ?_ ((Chg.refl _ w).alloc _) (by simp))
  refine ⟨by simp, Nat.le_refl _, .inr ⟨w.heap.size, _, rfl, rfl, heap_alloc_new w _, by simp [madeCells], by simp only [maxLen]; omega, ?_⟩⟩
  rw [toList_madeCells_one, List.take_of_length_le (by simp)]
end ops

end Go.Proofs.Ytlnjadnddldjeaa
