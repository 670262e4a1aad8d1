/-
  Contracts of a log's Put and Meta where they refuse.
-/
import Derived.Test.YtlnjadnddldjeaaLog4
namespace Go.Proofs.Ytlnjadnddldjeaa
open Go.RowKit
set_option linter.unusedVariables false
set_option linter.unusedSimpArgs false

set_option maxRecDepth 100000 in
theorem Put_arg {w : World} {L D f : Nat} {n : Int} {own : Option Nat} {rs : List ByteArray} {snap note s : ByteArray} (h : LogAt w L D own f rs snap note) (hn : n < (f : Int) ∨ ((f + rs.length : Nat) : Int) < n ∨ 1073741824 ≤ n) :
    Calls Try.prog 11 #[.pointer (some ⟨L, 0, none⟩), .int .i64 n, .string s] w fun e w' => e = .returned (.int .i64 1) ∧ ∃ q, w' = w.drewN q := by
  have hN := Next_calls h
  obtain ⟨h1, h2, A, cap, hh, hO⟩ := h
  obtain ⟨⟨c0, c1, c2, c3, c4⟩, hf⟩ := five_cells hh
  obtain ⟨N, hNN⟩ : ∃ N : Int, ((f + rs.length : Nat) : Int) = N := ⟨_, rfl⟩
  rw [hNN] at hN hn
  have HN := Lib.hid hN
  have H1 := Lib.hid h1
  have H2 := Lib.hid h2
  clear hN hNN hh hf hO h1 h2
  have hcase : n < (f : Int) ∨ (¬ n < (f : Int) ∧ N < n) ∨ (¬ n < (f : Int) ∧ ¬ N < n ∧ 1073741824 ≤ n) := by omega
  clear hn
  rcases hcase with g1 | ⟨g1, g2⟩ | ⟨g1, g2, g3⟩
  · go_enter Try.func11, Try.ntmps11
    go_wp2_with fail
    go_ret
    exact ⟨rfl, 0, rfl⟩
  · go_enter Try.func11, Try.ntmps11
    go_wp2_with fail
    refine HN.out.mono ?_
    rintro e w1 ⟨rfl, q1, rfl⟩
    go_wp2_with fail
    go_ret
    exact ⟨rfl, q1, rfl⟩
  · go_enter Try.func11, Try.ntmps11
    go_wp2_with fail
    refine HN.out.mono ?_
    rintro e w1 ⟨rfl, q1, rfl⟩
    go_wp2_with fail
    go_ret
    exact ⟨rfl, q1, rfl⟩
theorem Meta_long {w : World} {L D f : Nat} {own : Option Nat} {rs : List ByteArray} {snap note s : ByteArray} (h : LogAt w L D own f rs snap note) (hs : (65536 : Int) < (s.size : Int)) :
    Calls Try.prog 24 #[.pointer (some ⟨L, 0, none⟩), .string s] w fun e w' => e = .returned (.int .i64 3) ∧ w = w' := by
  clear h
  go_enter Try.func24, Try.ntmps24
  go_wp2_with fail
  go_ret
  exact ⟨rfl, rfl⟩
end Go.Proofs.Ytlnjadnddldjeaa
