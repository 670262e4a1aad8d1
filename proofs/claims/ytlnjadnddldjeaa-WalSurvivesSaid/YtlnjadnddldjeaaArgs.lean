/-
  What a walk is told of an argument that came in: a slice of bytes, of numbers, of slices of bytes, as plain lists; out of the reading that the row's form hands over. No condition: over any program.
-/
import Derived.Test.YtlnjadnddldjeaaBase
import Derived.ProofKit
import Derived.OpenShut
import Derived.Deep.Slices
namespace Go.Proofs.Ytlnjadnddldjeaa
open Go.RowKit Go.ChangeShapes Go.WideShapes

/-- a slice of bytes that came in -/
def BytesArg (w : World) (A : Option Addr) (n c : Nat) (l : List UInt8) : Prop := Cs w (fun k => k < w.heap.size) A n (bv l) ∧ n ≤ c ∧ c ≤ 9223372036854775807
/-- a slice of ints that came in -/
def IntsArg (w : World) (A : Option Addr) (n c : Nat) (xs : List Int) : Prop :=
  Cs w (fun k => k < w.heap.size) A n (xs.map (Value.int .i64)) ∧ n ≤ c ∧ c ≤ 9223372036854775807 ∧ ∀ x ∈ xs, -9223372036854775808 ≤ x ∧ x ≤ 9223372036854775807
/-- a slice of slices of bytes that came in -/
def RowsArg (w : World) (A : Option Addr) (n c : Nat) (vs : List Value) : Prop :=
  Cs w (fun k => k < w.heap.size) A n vs ∧ n ≤ c ∧ c ≤ 9223372036854775807 ∧ ∀ v ∈ vs, ∃ A' n' c' l, v = .slice A' n' c' ∧ BytesArg w A' n' c' l

section
variable {H : Type} {enc : TypeId × Value → H} {P : Program} {w : World} {base : Nat} {held : Bool}

theorem cs_of_fun {a : Addr} {n : Nat} (f : Nat → Value) (h : ∀ i, i < n → w.cell? (a.add i) = some (f i)) : Cs w (fun k => k < w.heap.size) (some a) n ((List.range n).map f) := by
  refine ⟨by simp, fun hn => ?_⟩
  have h0 := h 0 hn
  have hs : a.spot = none := by simpa [Addr.add] using World.cell?_spot h0
  obtain ⟨b, off, spot⟩ := a
  simp only at hs
  subst hs
  refine ⟨b, off, rfl, ?_, fun j u hu => ?_⟩
  · have := World.block_lt_of_cell? w _ h0
    rw [add_lit'] at this
    exact this
  · have hj : j < n := by
      have := (List.getElem?_eq_some_iff.1 hu).1
      simpa using this
    rw [← add_lit', h j hj]
    simpa [hj] using hu

theorem int_wf_u8 {n : Int} (h : (Lit.int .u8 n).wf = true) : 0 ≤ n ∧ n ≤ 255 := by
  simpa [Lit.wf, IntKind.min, IntKind.max, IntKind.signed, IntKind.bits] using h
theorem int_wf_i64 {n : Int} (h : (Lit.int .i64 n).wf = true) : -9223372036854775808 ≤ n ∧ n ≤ 9223372036854775807 := by
  simpa [Lit.wf, IntKind.min, IntKind.max, IntKind.signed, IntKind.bits] using h

theorem read_bytes {t e : TypeId} {fuel : Nat} {v : Value} {x : DataW H × List MemPlace} (ht : P.underlying t = some (.slice e)) (he : P.underlying e = some (.int .u8)) (hc : P.cellsOf e = 1)
    (h : DataW.trod enc P w base (fun _ => true) held fuel t [v] = some x) : ∃ A n c l, v = .slice A n c ∧ BytesArg w A n c l := by
  rcases open_ints ht he hc h with ⟨hcs, _⟩ | ⟨a, len, cap, zs, hcs, _, hl, hm, hz, _, hcell, hwz⟩
  · simp at hcs
    exact ⟨none, 0, 0, [], hcs, Cs.none_, Nat.le_refl _, by omega⟩
  · simp only [if_true] at hz
    simp at hcs
    have hcell' := fun i (hi : i < len) => hcell i (by omega)
    have hcs1 := cs_of_fun (fun i => Value.int .u8 (zs.getD i 0)) hcell'
    have hlist : (List.range len).map (fun i => Value.int .u8 (zs.getD i 0)) = bv ((zs.take len).map fun z => UInt8.ofNat z.toNat) := by
      rw [bv, List.map_map]
      apply List.ext_getElem?
      intro j
      by_cases hj : j < len
      · have hjz : j < zs.length := by omega
        have hb := int_wf_u8 (hwz _ (List.getElem_mem hjz))
        simp only [List.getElem?_map, List.getElem?_range hj, Option.map_some, List.getElem?_take, if_pos hj, List.getElem?_eq_getElem hjz, Function.comp, List.getD_eq_getElem?_getD, Option.getD_some]
        congr 2
        have h256 : zs[j].toNat % 256 = zs[j].toNat := Nat.mod_eq_of_lt (by omega)
        rw [UInt8.toNat_ofNat', h256]
        omega
      · simp only [List.getElem?_map, List.getElem?_take, if_neg hj]
        simp [hj]
    rw [hlist] at hcs1
    exact ⟨some a, len, cap, _, hcs, hcs1, hl, by simpa [maxLen] using hm⟩
theorem read_ints {t e : TypeId} {fuel : Nat} {v : Value} {x : DataW H × List MemPlace} (ht : P.underlying t = some (.slice e)) (he : P.underlying e = some (.int .i64)) (hc : P.cellsOf e = 1)
    (h : DataW.trod enc P w base (fun _ => true) held fuel t [v] = some x) : ∃ A n c xs, v = .slice A n c ∧ IntsArg w A n c xs := by
  rcases open_ints ht he hc h with ⟨hcs, _⟩ | ⟨a, len, cap, zs, hcs, _, hl, hm, hz, _, hcell, hwz⟩
  · simp at hcs
    exact ⟨none, 0, 0, [], hcs, Cs.none_, Nat.le_refl _, by omega, by simp⟩
  · simp only [if_true] at hz
    simp at hcs
    have hcell' := fun i (hi : i < len) => hcell i (by omega)
    have hcs1 := cs_of_fun (fun i => Value.int .i64 (zs.getD i 0)) hcell'
    have hlist : (List.range len).map (fun i => Value.int .i64 (zs.getD i 0)) = (zs.take len).map (Value.int .i64) := by
      apply List.ext_getElem?
      intro j
      by_cases hj : j < len
      · have hjz : j < zs.length := by omega
        simp only [List.getElem?_map, List.getElem?_range hj, Option.map_some, List.getElem?_take, if_pos hj, List.getElem?_eq_getElem hjz, List.getD_eq_getElem?_getD, Option.getD_some]
      · simp only [List.getElem?_map, List.getElem?_take, if_neg hj]
        simp [hj]
    rw [hlist] at hcs1
    exact ⟨some a, len, cap, _, hcs, hcs1, hl, by simpa [maxLen] using hm, fun x hx => int_wf_i64 (hwz x (List.mem_of_mem_take hx))⟩
theorem read_rows {t e q : TypeId} {fuel : Nat} {v : Value} {x : DataW H × List MemPlace} (ht : P.underlying t = some (.slice e)) (he : P.underlying e = some (.slice q)) (hq : P.underlying q = some (.int .u8)) (ce : P.cellsOf e = 1) (cq : P.cellsOf q = 1)
    (h : DataW.trod enc P w base (fun _ => true) held fuel t [v] = some x) : ∃ A n c vs, v = .slice A n c ∧ RowsArg w A n c vs := by
  rcases Deep.open_slice1 ht ce h with ⟨hcs, _⟩ | ⟨a, len, cap, m, n, V, D, Pl, hcs, _, hl, hm, hmm, _, hx⟩
  · simp at hcs
    exact ⟨none, 0, 0, [], hcs, Cs.none_, Nat.le_refl _, by omega, by simp⟩
  · simp only [if_true] at hmm
    simp at hcs
    have hcs1 := cs_of_fun V (fun i (hi : i < len) => (hx i (by omega)).1)
    refine ⟨some a, len, cap, _, hcs, hcs1, hl, by simpa [maxLen] using hm, fun u hu => ?_⟩
    obtain ⟨i, hi, rfl⟩ := List.mem_map.1 hu
    exact read_bytes he hq cq (hx i (by have := List.mem_range.1 hi; omega)).2
end
end Go.Proofs.Ytlnjadnddldjeaa
