/-
  Words for the laws that write into bytes of their own, and for an argument that is cut to a length. No condition.
-/
import Derived.Test.YtiibkbkcncmjoaaArgs
namespace Go.Proofs.Ytiibkbkcncmjoaa
open Go.RowKit
set_option linter.unusedVariables false

/-- a slice of bytes that the law itself writes into -/
def Scr (w : World) (own : Option Nat) (A : Option Addr) (n cap : Nat) : Prop := ∃ xs, Own w 5 own A n cap xs ∧ ∀ u ∈ xs, ∃ v : Int, u = .int .u8 v
theorem bv_scr (l : List UInt8) : ∀ u ∈ bv l, ∃ v : Int, u = .int .u8 v := by
  intro u hu
  simp only [bv, List.mem_map] at hu
  obtain ⟨b, _, rfl⟩ := hu
  exact ⟨_, rfl⟩
section
variable {w0 w w' : World} {own oM : Option Nat} {n cap : Nat} {A : Option Addr}
theorem Scr.chg {T : Nat → Prop} (h : Scr w oM A n cap) (hc : Chg T w w') (hd : ∀ k, oM = some k → ¬ T k) : Scr w' oM A n cap := by
  obtain ⟨xs, h1, h2⟩ := h
  exact ⟨xs, h1.chg hc hd, h2⟩
/-- element j of it, and what a store there leaves -/
theorem Scr.at_ (h : Scr w oM A n cap) {j : Nat} (hj : j < n) :
    ∃ g v, oM = some g ∧ A = some ⟨g, 0, none⟩ ∧ w.cell? ⟨g, j, none⟩ = some (.int .u8 v) ∧ w.frozen? ⟨g, j, none⟩ = false ∧ ∀ u : Int, Scr (w.setCell ⟨g, j, none⟩ (.int .u8 u)) oM A n cap := by
  obtain ⟨xs, h1, h2⟩ := h
  have hl : j < xs.length := by have := h1.len; omega
  obtain ⟨g, e1, e2, e3, e4⟩ := h1.cells (List.getElem?_eq_getElem hl)
  obtain ⟨v, hv⟩ := h2 xs[j] (List.getElem_mem hl)
  refine ⟨g, v, e1, e2, by rw [e3, hv], e4, fun u => ⟨_, h1.set e1 j _, fun y hy => ?_⟩⟩
  rcases List.mem_or_eq_of_mem_set hy with hy | rfl
  · exact h2 y hy
  · exact ⟨u, rfl⟩
end
def CutTo (M : Nat) (w : World) (A : Option Addr) (c : Nat) (s : Value) : Prop :=
  ∃ N L, s = .slice A N c ∧ N ≤ M ∧ N ≤ c ∧ c ≤ 9223372036854775807 ∧ L.length = N ∧ Cs w (fun k => k < w.heap.size) A N (bv L)
theorem cutTo_whole {M : Nat} {w : World} {A : Option Addr} {n c : Nat} {l : List UInt8} (h : BytesArg w A n c l) (hn : ¬ M < n) : CutTo M w A c (.slice A n c) :=
  ⟨n, l, rfl, by omega, h.2.1, h.2.2, by rw [← bv_length]; exact h.1.1, h.1⟩
theorem cutTo_cut {M : Nat} {w : World} {A : Option Addr} {n c : Nat} {l : List UInt8} (h : BytesArg w A n c l) (hn : M < n) : CutTo M w A c (.slice A M c) :=
  ⟨M, l.take M, rfl, Nat.le_refl _, by have := h.2.1; omega, h.2.2, by have := h.1.1; rw [bv_length] at this; rw [List.length_take]; omega, by rw [bv_take]; exact h.1.take (by omega)⟩
end Go.Proofs.Ytiibkbkcncmjoaa
