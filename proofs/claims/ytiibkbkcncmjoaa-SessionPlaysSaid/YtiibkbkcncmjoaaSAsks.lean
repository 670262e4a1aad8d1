/-
  What a walk is told of an argument that is a slice of requests to a session table. No condition: over any program.
-/
import Derived.Test.YtiibkbkcncmjoaaParts
namespace Go.Proofs.Ytiibkbkcncmjoaa
open Go.RowKit Go.ChangeShapes Go.WideShapes Go.Deep
set_option linter.unusedVariables false

/-- one request of such a slice, at its first cell -/
def SAskAt (w : World) (b o : Nat) : Prop :=
  ∃ (k c q y a : Int) (z : ByteArray), (w.cell? ⟨b, o, none⟩ = some (.int .i64 k) ∧ w.cell? ⟨b, o + 1, none⟩ = some (.int .i64 c) ∧ w.cell? ⟨b, o + 2, none⟩ = some (.int .i64 q) ∧ w.cell? ⟨b, o + 3, none⟩ = some (.int .i64 y) ∧ w.cell? ⟨b, o + 4, none⟩ = some (.int .i64 a) ∧ w.cell? ⟨b, o + 5, none⟩ = some (.string z)) ∧
    (-9223372036854775808 ≤ k ∧ k ≤ 9223372036854775807) ∧ (-9223372036854775808 ≤ c ∧ c ≤ 9223372036854775807) ∧ (-9223372036854775808 ≤ q ∧ q ≤ 9223372036854775807) ∧ (-9223372036854775808 ≤ y ∧ y ≤ 9223372036854775807) ∧ (-9223372036854775808 ≤ a ∧ a ≤ 9223372036854775807) ∧ z.size ≤ 9223372036854775807
def SAsksArg (w : World) (A : Option Addr) (n c : Nat) : Prop :=
  n ≤ c ∧ c ≤ 9223372036854775807 ∧ (0 < n → ∃ b off, A = some ⟨b, off, none⟩ ∧ b < w.heap.size ∧ ∀ i, i < n → SAskAt w b (off + i * 6))

section
variable {H : Type} {enc : TypeId × Value → H} {P : Program} {w : World} {base : Nat} {held : Bool}
theorem struct3' {t : TypeId} {f0 f1 f2 : Field} {fuel : Nat} {cs : List Value} {x : DataW H × List MemPlace} (ht : P.underlying t = some (.struct #[f0, f1, f2])) (h : DataW.trod enc P w base (fun _ => true) held fuel t cs = some x) :
    ∃ y0 y1 y2 n, DataW.trod enc P w base (fun _ => true) held n f0.type ((cs.drop f0.offset).take (P.cellsOf f0.type)) = some y0 ∧
      DataW.trod enc P w base (fun _ => true) held n f1.type ((cs.drop f1.offset).take (P.cellsOf f1.type)) = some y1 ∧ DataW.trod enc P w base (fun _ => true) held n f2.type ((cs.drop f2.offset).take (P.cellsOf f2.type)) = some y2 := by
  obtain ⟨xs, n, _, rfl, hl, hlen, hf⟩ := DataW.trod_struct ht h
  match xs, hlen with
  | [y0, y1, y2], _ => exact ⟨y0, y1, y2, n, by simpa using hf 0 f0 rfl, by simpa using hf 1 f1 rfl, by simpa using hf 2 f2 rfl⟩
theorem read_sasks {t e : TypeId} {f0 f1 f2 f3 g0 g1 g2 : Field} {fuel : Nat} {v : Value} {x : DataW H × List MemPlace} (ht : P.underlying t = some (.slice e)) (he : P.underlying e = some (.struct #[f0, f1, f2, f3])) (hg : P.underlying f3.type = some (.struct #[g0, g1, g2])) (ce : P.cellsOf e = 6)
    (o0 : f0.offset = 0) (o1 : f1.offset = 1) (o2 : f2.offset = 2) (o3 : f3.offset = 3) (c0 : P.cellsOf f0.type = 1) (c1 : P.cellsOf f1.type = 1) (c2 : P.cellsOf f2.type = 1) (c3 : P.cellsOf f3.type = 3)
    (p0 : g0.offset = 0) (p1 : g1.offset = 1) (p2 : g2.offset = 2) (d0 : P.cellsOf g0.type = 1) (d1 : P.cellsOf g1.type = 1) (d2 : P.cellsOf g2.type = 1)
    (t0 : P.underlying f0.type = some (.int .i64)) (t1 : P.underlying f1.type = some (.int .i64)) (t2 : P.underlying f2.type = some (.int .i64))
    (s0 : P.underlying g0.type = some (.int .i64)) (s1 : P.underlying g1.type = some (.int .i64)) (s2 : P.underlying g2.type = some .string)
    (h : DataW.trod enc P w base (fun _ => true) held fuel t [v] = some x) : ∃ A n c, v = .slice A n c ∧ SAsksArg w A n c := by
  rcases open_slice ht h with ⟨hcs, _⟩ | ⟨a, len, cap, m, n, D, Pl, hcs, hbase, hl, hm, hmm, hx, hi⟩
  · simp at hcs
    exact ⟨none, 0, 0, hcs, Nat.le_refl _, by omega, fun h => absurd h (by omega)⟩
  · simp only [if_true] at hmm
    simp at hcs
    refine ⟨some a, len, cap, hcs, hl, by simpa [maxLen] using hm, fun h0 => ?_⟩
    have hall : ∀ i, i < len → ∃ (k c q y b : Int) (z : ByteArray), (w.cell? (a.add (i * 6)) = some (.int .i64 k) ∧ w.cell? ((a.add (i * 6)).add 1) = some (.int .i64 c) ∧ w.cell? ((a.add (i * 6)).add 2) = some (.int .i64 q) ∧ w.cell? ((a.add (i * 6)).add 3) = some (.int .i64 y) ∧ w.cell? ((a.add (i * 6)).add 4) = some (.int .i64 b) ∧ w.cell? ((a.add (i * 6)).add 5) = some (.string z)) ∧
        (-9223372036854775808 ≤ k ∧ k ≤ 9223372036854775807) ∧ (-9223372036854775808 ≤ c ∧ c ≤ 9223372036854775807) ∧ (-9223372036854775808 ≤ q ∧ q ≤ 9223372036854775807) ∧ (-9223372036854775808 ≤ y ∧ y ≤ 9223372036854775807) ∧ (-9223372036854775808 ≤ b ∧ b ≤ 9223372036854775807) ∧ z.size ≤ 9223372036854775807 := fun i hil => by
      obtain ⟨cs', hc, ht'⟩ := hi i (by omega)
      rw [ce] at hc
      obtain ⟨_, hcl, hat⟩ := World.cells?_some hc
      obtain ⟨y0, y1, y2, y3, n', hD, h0, h1, h2, h3⟩ := struct4 he ht'
      rw [o0, c0] at h0
      rw [o1, c1] at h1
      rw [o2, c2] at h2
      rw [o3, c3] at h3
      match cs', hcl with
      | [u0, u1, u2, u3, u4, u5], _ =>
        simp only [List.drop_zero, List.take_succ_cons, List.take_zero, List.drop_succ_cons] at h0 h1 h2 h3
        obtain ⟨z0, z1, z2, n'', i0, i1, i2⟩ := struct3' hg h3
        rw [p0, d0] at i0
        rw [p1, d1] at i1
        rw [p2, d2] at i2
        simp only [List.drop_zero, List.take_succ_cons, List.take_zero, List.drop_succ_cons] at i0 i1 i2
        obtain ⟨k0, e0, _, w0⟩ := DataW.trod_int t0 h0
        obtain ⟨k1, e1, _, w1⟩ := DataW.trod_int t1 h1
        obtain ⟨k2, e2, _, w2⟩ := DataW.trod_int t2 h2
        obtain ⟨k3, e3, _, w3⟩ := DataW.trod_int s0 i0
        obtain ⟨k4, e4, _, w4⟩ := DataW.trod_int s1 i1
        obtain ⟨s, e5, _, w5⟩ := DataW.trod_string s2 i2
        injection e0 with e0 _
        injection e1 with e1 _
        injection e2 with e2 _
        injection e3 with e3 _
        injection e4 with e4 _
        injection e5 with e5 _
        subst e0; subst e1; subst e2; subst e3; subst e4; subst e5
        have q0 := hat 0 (by omega)
        have q1 := hat 1 (by omega)
        have q2 := hat 2 (by omega)
        have q3 := hat 3 (by omega)
        have q4 := hat 4 (by omega)
        have q5 := hat 5 (by omega)
        refine ⟨k0, k1, k2, k3, k4, s, ⟨?_, by simpa using q1, by simpa using q2, by simpa using q3, by simpa using q4, by simpa using q5⟩, int_wf_i64 w0, int_wf_i64 w1, int_wf_i64 w2, int_wf_i64 w3, int_wf_i64 w4, by simpa [maxLen] using w5⟩
        have za (p : Addr) : p.add 0 = p := by obtain ⟨b, off, spot⟩ := p; unfold Addr.add; split <;> simp_all
        rw [za] at q0
        simpa using q0
    have hs : a.spot = none := by
      obtain ⟨k, c, q, y, b, z, ⟨q0, _⟩, _⟩ := hall 0 h0
      simpa [Addr.add] using World.cell?_spot q0
    obtain ⟨b, off, spot⟩ := a
    simp only at hs
    subst hs
    refine ⟨b, off, rfl, ?_, fun i hil => ?_⟩
    · obtain ⟨k, c, q, y, b', z, ⟨q0, _⟩, _⟩ := hall 0 h0
      have := World.block_lt_of_cell? w _ q0
      rw [add_lit'] at this
      exact this
    · obtain ⟨k, c, q, y, b', z, ⟨q0, q1, q2, q3, q4, q5⟩, r⟩ := hall i hil
      rw [add_lit'] at q0
      rw [add_lit', add_lit'] at q1 q2 q3 q4 q5
      exact ⟨k, c, q, y, b', z, ⟨q0, q1, q2, q3, q4, q5⟩, r⟩
end
end Go.Proofs.Ytiibkbkcncmjoaa
