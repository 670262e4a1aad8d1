/-
  What a walk is told of an argument that is a slice of structs of three numbers and a text; how long a slice that came in may be, by the form's own reach. No condition: over any program.
-/
import Derived.Test.YtiibkbkcncmjoaaArgs
import Derived.Deep.Strs
import Derived.SizedLaws
namespace Go.Proofs.Ytiibkbkcncmjoaa
open Go.RowKit Go.ChangeShapes Go.WideShapes Go.Deep
set_option linter.unusedVariables false

/-- one thing of such a slice, at its first cell; its text has at most B bytes -/
def PartAt (B : Nat) (w : World) (b o : Nat) : Prop :=
  ∃ (k m d : Int) (s : ByteArray), w.cell? ⟨b, o, none⟩ = some (.int .i64 k) ∧ w.cell? ⟨b, o + 1, none⟩ = some (.int .i64 m) ∧ w.cell? ⟨b, o + 2, none⟩ = some (.int .i64 d) ∧ w.cell? ⟨b, o + 3, none⟩ = some (.string s) ∧
    (-9223372036854775808 ≤ k ∧ k ≤ 9223372036854775807) ∧ (-9223372036854775808 ≤ m ∧ m ≤ 9223372036854775807) ∧ (-9223372036854775808 ≤ d ∧ d ≤ 9223372036854775807) ∧ s.size ≤ B
/-- a slice of such structs that came in -/
def PartsArg (B : Nat) (w : World) (A : Option Addr) (n c : Nat) : Prop :=
  n ≤ c ∧ c ≤ 9223372036854775807 ∧ (0 < n → ∃ b off, A = some ⟨b, off, none⟩ ∧ b < w.heap.size ∧ ∀ i, i < n → PartAt B w b (off + i * 4))

section
variable {H : Type} {enc : TypeId × Value → H} {P : Program} {w : World} {base : Nat} {held : Bool}
/-- a slice's data: so many elements and spare places as its capacity -/
theorem slice_data {t e : TypeId} {fuel : Nat} {A : Option Addr} {n c : Nat} {x : DataW H × List MemPlace} (ht : P.underlying t = some (.slice e)) (h : DataW.trod enc P w base (fun _ => true) held fuel t [.slice A n c] = some x) :
    (n = 0 ∧ c = 0 ∧ x.1 = .nil) ∨ ∃ elems spare, x.1 = .slice elems spare ∧ elems.length = n ∧ elems.length + spare.length = c := by
  rcases open_slice ht h with ⟨hcs, hx⟩ | ⟨a, len, cap, m, k, D, Pl, hcs, _, hl, hm, hmm, hx, _⟩
  · injection hcs with hcs
    injection hcs with _ h1 h2
    exact .inl ⟨h1, h2, by rw [hx]⟩
  · injection hcs with hcs
    injection hcs with _ h1 h2
    subst h1; subst h2
    simp only [if_true] at hmm
    subst hmm
    exact .inr ⟨_, _, by rw [hx], by simp, by simp; omega⟩
/-- the form's own reach: a slice's capacity times its element's bytes -/
theorem slice_reach {ts : List TypeId} {ds : List (DataW H)} {t e : TypeId} {fuel j : Nat} {A : Option Addr} {n c : Nat} {x : DataW H × List MemPlace} (hz : (DataW.weightsEach P ts ds).all (· ≤ reachBytes) = true) (htj : ts[j]? = some t) (hdj : ds[j]? = some x.1)
    (ht : P.underlying t = some (.slice e)) (h : DataW.trod enc P w base (fun _ => true) held fuel t [.slice A n c] = some x) : c * P.bytesOf e ≤ reachBytes := by
  rcases slice_data ht h with ⟨_, hc, _⟩ | ⟨elems, spare, hx, _, hc⟩
  · rw [hc, Nat.zero_mul]; exact Nat.zero_le _
  · rw [← hc]
    exact sized_slice hz htj (by rw [hdj, hx]) ht
theorem struct4 {t : TypeId} {f0 f1 f2 f3 : Field} {fuel : Nat} {cs : List Value} {x : DataW H × List MemPlace} (ht : P.underlying t = some (.struct #[f0, f1, f2, f3])) (h : DataW.trod enc P w base (fun _ => true) held fuel t cs = some x) :
    ∃ y0 y1 y2 y3 n, x.1 = .agg [y0.1, y1.1, y2.1, y3.1] ∧ DataW.trod enc P w base (fun _ => true) held n f0.type ((cs.drop f0.offset).take (P.cellsOf f0.type)) = some y0 ∧
      DataW.trod enc P w base (fun _ => true) held n f1.type ((cs.drop f1.offset).take (P.cellsOf f1.type)) = some y1 ∧ DataW.trod enc P w base (fun _ => true) held n f2.type ((cs.drop f2.offset).take (P.cellsOf f2.type)) = some y2 ∧
      DataW.trod enc P w base (fun _ => true) held n f3.type ((cs.drop f3.offset).take (P.cellsOf f3.type)) = some y3 := by
  obtain ⟨xs, n, _, rfl, hl, hlen, hf⟩ := DataW.trod_struct ht h
  match xs, hlen with
  | [y0, y1, y2, y3], _ => exact ⟨y0, y1, y2, y3, n, by simp, by simpa using hf 0 f0 rfl, by simpa using hf 1 f1 rfl, by simpa using hf 2 f2 rfl, by simpa using hf 3 f3 rfl⟩
/-- the data of such a slice is so: each text's bytes stand in it; B is a bound of them -/
def PartsData (B : Nat) (d : DataW H) : Prop := ∀ elems spare, d = .slice elems spare → ∀ d0 d1 d2 l, .agg [d0, d1, d2, .lit (.string l)] ∈ elems → l.length ≤ 9223372036854775807 → l.length ≤ B
theorem PartsData.any (d : DataW H) : PartsData 9223372036854775807 d := fun _ _ _ _ _ _ _ _ h => h
theorem read_parts {t e : TypeId} {f0 f1 f2 f3 : Field} {fuel : Nat} {v : Value} {x : DataW H × List MemPlace} (B : Nat) (ht : P.underlying t = some (.slice e)) (he : P.underlying e = some (.struct #[f0, f1, f2, f3])) (ce : P.cellsOf e = 4)
    (o0 : f0.offset = 0) (o1 : f1.offset = 1) (o2 : f2.offset = 2) (o3 : f3.offset = 3) (c0 : P.cellsOf f0.type = 1) (c1 : P.cellsOf f1.type = 1) (c2 : P.cellsOf f2.type = 1) (c3 : P.cellsOf f3.type = 1)
    (t0 : P.underlying f0.type = some (.int .i64)) (t1 : P.underlying f1.type = some (.int .i64)) (t2 : P.underlying f2.type = some (.int .i64)) (t3 : P.underlying f3.type = some .string)
    (hB : PartsData B x.1)
    (h : DataW.trod enc P w base (fun _ => true) held fuel t [v] = some x) : ∃ A n c, v = .slice A n c ∧ PartsArg B w A n c := by
  rcases open_slice ht h with ⟨hcs, _⟩ | ⟨a, len, cap, m, n, D, Pl, hcs, hbase, hl, hm, hmm, hx, hi⟩
  · simp at hcs
    exact ⟨none, 0, 0, hcs, Nat.le_refl _, by omega, fun h => absurd h (by omega)⟩
  · simp only [if_true] at hmm
    simp at hcs
    refine ⟨some a, len, cap, hcs, hl, by simpa [maxLen] using hm, fun h0 => ?_⟩
    have hall : ∀ i, i < len → ∃ (k m d : Int) (s : ByteArray), w.cell? (a.add (i * 4)) = some (.int .i64 k) ∧ w.cell? ((a.add (i * 4)).add 1) = some (.int .i64 m) ∧ w.cell? ((a.add (i * 4)).add 2) = some (.int .i64 d) ∧ w.cell? ((a.add (i * 4)).add 3) = some (.string s) ∧
        (-9223372036854775808 ≤ k ∧ k ≤ 9223372036854775807) ∧ (-9223372036854775808 ≤ m ∧ m ≤ 9223372036854775807) ∧ (-9223372036854775808 ≤ d ∧ d ≤ 9223372036854775807) ∧ s.size ≤ B := fun i hil => by
      obtain ⟨cs', hc, ht'⟩ := hi i (by omega)
      rw [ce] at hc
      obtain ⟨_, hcl, hat⟩ := World.cells?_some hc
      obtain ⟨y0, y1, y2, y3, n', hD, h0, h1, h2, h3⟩ := struct4 he ht'
      rw [o0, c0] at h0
      rw [o1, c1] at h1
      rw [o2, c2] at h2
      rw [o3, c3] at h3
      match cs', hcl with
      | [u0, u1, u2, u3], _ =>
        simp only [List.drop_zero, List.take_succ_cons, List.take_zero, List.drop_succ_cons] at h0 h1 h2 h3
        obtain ⟨k0, e0, _, w0⟩ := DataW.trod_int t0 h0
        obtain ⟨k1, e1, _, w1⟩ := DataW.trod_int t1 h1
        obtain ⟨k2, e2, _, w2⟩ := DataW.trod_int t2 h2
        obtain ⟨s, e3, x3, w3⟩ := DataW.trod_string t3 h3
        injection e0 with e0 _
        injection e1 with e1 _
        injection e2 with e2 _
        injection e3 with e3 _
        subst e0; subst e1; subst e2; subst e3
        have hsz : s.size ≤ B := by
          have e : s.data.toList.length = s.size := by rw [Array.length_toList]; rfl
          have := hB _ _ (by rw [hx]) y0.1 y1.1 y2.1 s.data.toList (by
            have hm : D i ∈ (List.range len).map D := List.mem_map.2 ⟨i, List.mem_range.2 hil, rfl⟩
            have hD' : D i = .agg [y0.1, y1.1, y2.1, .lit (.string s.data.toList)] := by
              have := hD
              rw [x3] at this
              exact this
            rwa [hD'] at hm) (by rw [e]; simpa [maxLen] using w3)
          omega
        have q0 := hat 0 (by omega)
        have q1 := hat 1 (by omega)
        have q2 := hat 2 (by omega)
        have q3 := hat 3 (by omega)
        refine ⟨k0, k1, k2, s, ?_, by simpa using q1, by simpa using q2, by simpa using q3, int_wf_i64 w0, int_wf_i64 w1, int_wf_i64 w2, hsz⟩
        have za (p : Addr) : p.add 0 = p := by obtain ⟨b, off, spot⟩ := p; unfold Addr.add; split <;> simp_all
        rw [za] at q0
        simpa using q0
    have hs : a.spot = none := by
      obtain ⟨k, m, d, s, q0, _⟩ := hall 0 h0
      simpa [Addr.add] using World.cell?_spot q0
    obtain ⟨b, off, spot⟩ := a
    simp only at hs
    subst hs
    refine ⟨b, off, rfl, ?_, fun i hil => ?_⟩
    · obtain ⟨k, m, d, s, q0, _⟩ := hall 0 h0
      have := World.block_lt_of_cell? w _ q0
      rw [add_lit'] at this
      exact this
    · obtain ⟨k, m, d, s, q0, q1, q2, q3, r⟩ := hall i hil
      rw [add_lit'] at q0
      rw [add_lit', add_lit'] at q1 q2 q3
      exact ⟨k, m, d, s, q0, q1, q2, q3, r⟩
end
end Go.Proofs.Ytiibkbkcncmjoaa
