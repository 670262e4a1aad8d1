/-
  What a walk is told of an argument that came in: a slice of strings, of bools, of requests to a log.
-/
import Derived.Test.YtlnjadnddldjeaaArgs
import Derived.Test.YtlnjadnddldjeaaLog
import Derived.Deep.Strs
namespace Go.Proofs.Ytlnjadnddldjeaa
open Go.RowKit Go.ChangeShapes Go.WideShapes Go.Deep
set_option linter.unusedVariables false

/-- a slice of strings that came in -/
def StrsArg (w : World) (A : Option Addr) (n c : Nat) (ss : List ByteArray) : Prop :=
  Cs w (fun k => k < w.heap.size) A n (sv ss) ∧ n ≤ c ∧ c ≤ 9223372036854775807 ∧ ∀ s ∈ ss, s.size ≤ 9223372036854775807
/-- a slice of bools that came in -/
def BoolsArg (w : World) (A : Option Addr) (n c : Nat) (ss : List Bool) : Prop :=
  Cs w (fun k => k < w.heap.size) A n (ss.map Value.bool) ∧ n ≤ c ∧ c ≤ 9223372036854775807
/-- one request of a slice of them, at its first cell -/
def WAskAt (w : World) (b o : Nat) : Prop :=
  ∃ (k n : Int) (s : ByteArray), w.cell? ⟨b, o, none⟩ = some (.int .i64 k) ∧ w.cell? ⟨b, o + 1, none⟩ = some (.int .i64 n) ∧ w.cell? ⟨b, o + 2, none⟩ = some (.string s) ∧
    (-9223372036854775808 ≤ k ∧ k ≤ 9223372036854775807) ∧ (-9223372036854775808 ≤ n ∧ n ≤ 9223372036854775807) ∧ s.size ≤ 9223372036854775807
def WAsksArg (w : World) (A : Option Addr) (n c : Nat) : Prop :=
  n ≤ c ∧ c ≤ 9223372036854775807 ∧ (0 < n → ∃ b off, A = some ⟨b, off, none⟩ ∧ b < w.heap.size ∧ ∀ i, i < n → WAskAt w b (off + i * 3))

section
variable {H : Type} {enc : TypeId × Value → H} {P : Program} {w : World} {base : Nat} {held : Bool}
theorem strs_of {vs : List Value} (h : ∀ v ∈ vs, ∃ s : ByteArray, v = .string s ∧ s.size ≤ 9223372036854775807) : ∃ ss, vs = sv ss ∧ ∀ s ∈ ss, s.size ≤ 9223372036854775807 := by
  induction vs with
  | nil => exact ⟨[], rfl, fun s hs => by cases hs⟩
  | cons v vs ih =>
    obtain ⟨ss, e, h2⟩ := ih fun v hv => h v (List.mem_cons_of_mem _ hv)
    obtain ⟨s, rfl, hs⟩ := h v (List.mem_cons_self ..)
    exact ⟨s :: ss, by rw [e]; rfl, fun x hx => by
      rcases List.mem_cons.1 hx with rfl | hx
      · exact hs
      · exact h2 x hx⟩
theorem bools_of {vs : List Value} (h : ∀ v ∈ vs, ∃ b : Bool, v = .bool b) : ∃ ss : List Bool, vs = ss.map Value.bool := by
  induction vs with
  | nil => exact ⟨[], rfl⟩
  | cons v vs ih =>
    obtain ⟨ss, e⟩ := ih fun v hv => h v (List.mem_cons_of_mem _ hv)
    obtain ⟨s, rfl⟩ := h v (List.mem_cons_self ..)
    exact ⟨s :: ss, by rw [e]; rfl⟩
theorem read_strs {t e : TypeId} {fuel : Nat} {v : Value} {x : DataW H × List MemPlace} (ht : P.underlying t = some (.slice e)) (he : P.underlying e = some .string) (ce : P.cellsOf e = 1)
    (h : DataW.trod enc P w base (fun _ => true) held fuel t [v] = some x) : ∃ A n c ss, v = .slice A n c ∧ StrsArg w A n c ss := by
  rcases Deep.open_slice1 ht ce h with ⟨hcs, _⟩ | ⟨a, len, cap, m, n, V, D, Pl, hcs, _, hl, hm, hmm, _, hx⟩
  · simp at hcs
    exact ⟨none, 0, 0, [], hcs, Cs.none_, Nat.le_refl _, by omega, fun s hs => by cases hs⟩
  · simp only [if_true] at hmm
    simp at hcs
    have hcs1 := cs_of_fun V (fun i (hi : i < len) => (hx i (by omega)).1)
    obtain ⟨ss, e1, e2⟩ := strs_of (vs := (List.range len).map V) fun u hu => by
      obtain ⟨i, hi, rfl⟩ := List.mem_map.1 hu
      obtain ⟨s, e, _, hs⟩ := DataW.trod_string he (hx i (by have := List.mem_range.1 hi; omega)).2
      injection e with e _
      exact ⟨s, e, by simpa [maxLen] using hs⟩
    rw [e1] at hcs1
    exact ⟨some a, len, cap, ss, hcs, hcs1, hl, by simpa [maxLen] using hm, e2⟩
theorem read_bools {t e : TypeId} {fuel : Nat} {v : Value} {x : DataW H × List MemPlace} (ht : P.underlying t = some (.slice e)) (he : P.underlying e = some .bool) (ce : P.cellsOf e = 1)
    (h : DataW.trod enc P w base (fun _ => true) held fuel t [v] = some x) : ∃ A n c ss, v = .slice A n c ∧ BoolsArg w A n c ss := by
  rcases Deep.open_slice1 ht ce h with ⟨hcs, _⟩ | ⟨a, len, cap, m, n, V, D, Pl, hcs, _, hl, hm, hmm, _, hx⟩
  · simp at hcs
    exact ⟨none, 0, 0, [], hcs, Cs.none_, Nat.le_refl _, by omega⟩
  · simp only [if_true] at hmm
    simp at hcs
    have hcs1 := cs_of_fun V (fun i (hi : i < len) => (hx i (by omega)).1)
    obtain ⟨ss, e1⟩ := bools_of (vs := (List.range len).map V) fun u hu => by
      obtain ⟨i, hi, rfl⟩ := List.mem_map.1 hu
      obtain ⟨s, e, _⟩ := DataW.trod_bool he (hx i (by have := List.mem_range.1 hi; omega)).2
      injection e with e _
      exact ⟨s, e⟩
    rw [e1] at hcs1
    exact ⟨some a, len, cap, ss, hcs, hcs1, hl, by simpa [maxLen] using hm⟩
theorem structThree {t : TypeId} {f0 f1 f2 : Field} {fuel : Nat} {cs : List Value} {x : DataW H × List MemPlace} (ht : P.underlying t = some (.struct #[f0, f1, f2])) (h : DataW.trod enc P w base (fun _ => true) held fuel t cs = some x) :
    ∃ y0 y1 y2 n, DataW.trod enc P w base (fun _ => true) held n f0.type ((cs.drop f0.offset).take (P.cellsOf f0.type)) = some y0 ∧
      DataW.trod enc P w base (fun _ => true) held n f1.type ((cs.drop f1.offset).take (P.cellsOf f1.type)) = some y1 ∧ DataW.trod enc P w base (fun _ => true) held n f2.type ((cs.drop f2.offset).take (P.cellsOf f2.type)) = some y2 := by
  obtain ⟨xs, n, _, rfl, hl, hlen, hf⟩ := DataW.trod_struct ht h
  match xs, hlen with
  | [y0, y1, y2], _ => exact ⟨y0, y1, y2, n, by simpa using hf 0 f0 rfl, by simpa using hf 1 f1 rfl, by simpa using hf 2 f2 rfl⟩
theorem read_wasks {t e : TypeId} {f0 f1 f2 : Field} {fuel : Nat} {v : Value} {x : DataW H × List MemPlace} (ht : P.underlying t = some (.slice e)) (he : P.underlying e = some (.struct #[f0, f1, f2])) (ce : P.cellsOf e = 3)
    (o0 : f0.offset = 0) (o1 : f1.offset = 1) (o2 : f2.offset = 2) (c0 : P.cellsOf f0.type = 1) (c1 : P.cellsOf f1.type = 1) (c2 : P.cellsOf f2.type = 1)
    (t0 : P.underlying f0.type = some (.int .i64)) (t1 : P.underlying f1.type = some (.int .i64)) (t2 : P.underlying f2.type = some .string)
    (h : DataW.trod enc P w base (fun _ => true) held fuel t [v] = some x) : ∃ A n c, v = .slice A n c ∧ WAsksArg w A n c := by
  rcases open_slice ht h with ⟨hcs, _⟩ | ⟨a, len, cap, m, n, D, Pl, hcs, hbase, hl, hm, hmm, hx, hi⟩
  · simp at hcs
    exact ⟨none, 0, 0, hcs, Nat.le_refl _, by omega, fun h => absurd h (by omega)⟩
  · simp only [if_true] at hmm
    simp at hcs
    refine ⟨some a, len, cap, hcs, hl, by simpa [maxLen] using hm, fun h0 => ?_⟩
    have hall : ∀ i, i < len → ∃ (k n : Int) (z : ByteArray), (w.cell? (a.add (i * 3)) = some (.int .i64 k) ∧ w.cell? ((a.add (i * 3)).add 1) = some (.int .i64 n) ∧ w.cell? ((a.add (i * 3)).add 2) = some (.string z)) ∧
        (-9223372036854775808 ≤ k ∧ k ≤ 9223372036854775807) ∧ (-9223372036854775808 ≤ n ∧ n ≤ 9223372036854775807) ∧ z.size ≤ 9223372036854775807 := fun i hil => by
      obtain ⟨cs', hc, ht'⟩ := hi i (by omega)
      rw [ce] at hc
      obtain ⟨_, hcl, hat⟩ := World.cells?_some hc
      obtain ⟨y0, y1, y2, n', h0, h1, h2⟩ := structThree he ht'
      rw [o0, c0] at h0
      rw [o1, c1] at h1
      rw [o2, c2] at h2
      match cs', hcl with
      | [u0, u1, u2], _ =>
        simp only [List.drop_zero, List.take_succ_cons, List.take_zero, List.drop_succ_cons] at h0 h1 h2
        obtain ⟨k0, e0, _, w0⟩ := DataW.trod_int t0 h0
        obtain ⟨k1, e1, _, w1⟩ := DataW.trod_int t1 h1
        obtain ⟨s, e2, _, w2⟩ := DataW.trod_string t2 h2
        injection e0 with e0 _
        injection e1 with e1 _
        injection e2 with e2 _
        subst e0; subst e1; subst e2
        have q0 := hat 0 (by omega)
        have q1 := hat 1 (by omega)
        have q2 := hat 2 (by omega)
        refine ⟨k0, k1, s, ⟨?_, by simpa using q1, by simpa using q2⟩, int_wf_i64 w0, int_wf_i64 w1, by simpa [maxLen] using w2⟩
        have za (p : Addr) : p.add 0 = p := by obtain ⟨b, off, spot⟩ := p; unfold Addr.add; split <;> simp_all
        rw [za] at q0
        simpa using q0
    have hs : a.spot = none := by
      obtain ⟨k, n, z, ⟨q0, _⟩, _⟩ := hall 0 h0
      simpa [Addr.add] using World.cell?_spot q0
    obtain ⟨b, off, spot⟩ := a
    simp only at hs
    subst hs
    refine ⟨b, off, rfl, ?_, fun i hil => ?_⟩
    · obtain ⟨k, n, z, ⟨q0, _⟩, _⟩ := hall 0 h0
      have := World.block_lt_of_cell? w _ q0
      rw [add_lit'] at this
      exact this
    · obtain ⟨k, n, z, ⟨q0, q1, q2⟩, r⟩ := hall i hil
      rw [add_lit'] at q0
      rw [add_lit', add_lit'] at q1 q2
      exact ⟨k, n, z, q0, q1, q2, r⟩
end
end Go.Proofs.Ytlnjadnddldjeaa
