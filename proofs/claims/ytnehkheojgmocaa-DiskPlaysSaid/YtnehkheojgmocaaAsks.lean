/-
  What a walk is told of an argument that is a slice of structs of two numbers and a slice of bytes. No condition: over any program.
-/
import Derived.Test.YtnehkheojgmocaaArgs
import Derived.Deep.Strs
namespace Go.Proofs.Ytnehkheojgmocaa
open Go.RowKit Go.ChangeShapes Go.WideShapes Go.Deep
set_option linter.unusedVariables false

/-- one thing of such a slice, at its first cell -/
def AskAt (w : World) (b o : Nat) : Prop :=
  ∃ (k m : Int) (A : Option Addr) (n c : Nat) (l : List UInt8), w.cell? ⟨b, o, none⟩ = some (.int .i64 k) ∧ w.cell? ⟨b, o + 1, none⟩ = some (.int .i64 m) ∧ w.cell? ⟨b, o + 2, none⟩ = some (.slice A n c) ∧ BytesArg w A n c l ∧
    (-9223372036854775808 ≤ k ∧ k ≤ 9223372036854775807) ∧ (-9223372036854775808 ≤ m ∧ m ≤ 9223372036854775807)
/-- a slice of such structs that came in -/
def AsksArg (w : World) (A : Option Addr) (n c : Nat) : Prop :=
  n ≤ c ∧ c ≤ 9223372036854775807 ∧ (0 < n → ∃ b off, A = some ⟨b, off, none⟩ ∧ b < w.heap.size ∧ ∀ i, i < n → AskAt w b (off + i * 3))

section
variable {H : Type} {enc : TypeId × Value → H} {P : Program} {w : World} {base : Nat} {held : Bool}
theorem read_asks {t e q u : TypeId} {f0 f1 f2 : Field} {fuel : Nat} {v : Value} {x : DataW H × List MemPlace} (ht : P.underlying t = some (.slice e)) (he : P.underlying e = some (.struct #[f0, f1, f2])) (ce : P.cellsOf e = 3)
    (o0 : f0.offset = 0) (o1 : f1.offset = 1) (o2 : f2.offset = 2) (c0 : P.cellsOf f0.type = 1) (c1 : P.cellsOf f1.type = 1) (c2 : P.cellsOf f2.type = 1)
    (t0 : P.underlying f0.type = some (.int .i64)) (t1 : P.underlying f1.type = some (.int .i64)) (t2 : P.underlying f2.type = some (.slice u)) (hu : P.underlying u = some (.int .u8)) (cu : P.cellsOf u = 1)
    (h : DataW.trod enc P w base (fun _ => true) held fuel t [v] = some x) : ∃ A n c, v = .slice A n c ∧ AsksArg w A n c := by
  rcases open_slice ht h with ⟨hcs, _⟩ | ⟨a, len, cap, m, n, D, Pl, hcs, hbase, hl, hm, hmm, _, hi⟩
  · simp at hcs
    exact ⟨none, 0, 0, hcs, Nat.le_refl _, by omega, fun h => absurd h (by omega)⟩
  · simp only [if_true] at hmm
    simp at hcs
    refine ⟨some a, len, cap, hcs, hl, by simpa [maxLen] using hm, fun h0 => ?_⟩
    have hall : ∀ i, i < len → ∃ (k m : Int) (A : Option Addr) (n c : Nat) (l : List UInt8), w.cell? (a.add (i * 3)) = some (.int .i64 k) ∧ w.cell? ((a.add (i * 3)).add 1) = some (.int .i64 m) ∧ w.cell? ((a.add (i * 3)).add 2) = some (.slice A n c) ∧ BytesArg w A n c l ∧
        (-9223372036854775808 ≤ k ∧ k ≤ 9223372036854775807) ∧ (-9223372036854775808 ≤ m ∧ m ≤ 9223372036854775807) := fun i hil => by
      obtain ⟨cs', hc, ht'⟩ := hi i (by omega)
      rw [ce] at hc
      obtain ⟨_, hcl, hat⟩ := World.cells?_some hc
      obtain ⟨y0, y1, y2, n', _, _, h0, h1, h2⟩ := trod_struct3 he ht'
      rw [o0, c0] at h0
      rw [o1, c1] at h1
      rw [o2, c2] at h2
      match cs', hcl with
      | [u0, u1, u2], _ =>
        simp only [List.drop_zero, List.take_succ_cons, List.take_zero, List.drop_succ_cons] at h0 h1 h2
        obtain ⟨k0, e0, _, w0⟩ := DataW.trod_int t0 h0
        obtain ⟨k1, e1, _, w1⟩ := DataW.trod_int t1 h1
        injection e0 with e0 _
        injection e1 with e1 _
        subst e0
        subst e1
        obtain ⟨A, n, c, l, rfl, hb⟩ := read_bytes t2 hu cu h2
        have q0 := hat 0 (by omega)
        have q1 := hat 1 (by omega)
        have q2 := hat 2 (by omega)
        refine ⟨k0, k1, A, n, c, l, ?_, by simpa using q1, by simpa using q2, hb, int_wf_i64 w0, int_wf_i64 w1⟩
        have za (p : Addr) : p.add 0 = p := by obtain ⟨b, off, spot⟩ := p; unfold Addr.add; split <;> simp_all
        rw [za] at q0
        simpa using q0
    have hs : a.spot = none := by
      obtain ⟨k, m, A, n, c, l, q0, _⟩ := hall 0 h0
      simpa [Addr.add] using World.cell?_spot q0
    obtain ⟨b, off, spot⟩ := a
    simp only at hs
    subst hs
    refine ⟨b, off, rfl, ?_, fun i hil => ?_⟩
    · obtain ⟨k, m, A, n, c, l, q0, _⟩ := hall 0 h0
      have := World.block_lt_of_cell? w _ q0
      rw [add_lit'] at this
      exact this
    · obtain ⟨k, m, A, n, c, l, q0, q1, q2, q3⟩ := hall i hil
      rw [add_lit'] at q0
      rw [add_lit', add_lit'] at q1 q2
      exact ⟨k, m, A, n, c, l, q0, q1, q2, q3⟩
end
end Go.Proofs.Ytnehkheojgmocaa
