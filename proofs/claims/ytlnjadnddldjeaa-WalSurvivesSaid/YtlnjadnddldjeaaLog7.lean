/-
  Contract of a log's Put where the record is too long.
-/
import Derived.Test.YtlnjadnddldjeaaLog6
namespace Go.Proofs.Ytlnjadnddldjeaa
open Go.RowKit
set_option linter.unusedVariables false
set_option linter.unusedSimpArgs false

set_option maxRecDepth 100000 in
theorem Put_long {w : World} {L D f : Nat} {n : Int} {own : Option Nat} {rs : List ByteArray} {snap note s : ByteArray} (h : LogAt w L D own f rs snap note) (g1 : ¬ n < (f : Int)) (hn : ¬ ((f + rs.length : Nat) : Int) < n) (g3 : ¬ 1073741824 ≤ n) (hs : (65536 : Int) < (s.size : Int)) :
    Calls Try.prog 11 #[.pointer (some ⟨L, 0, none⟩), .int .i64 n, .string s] w fun e w' => e = .returned (.int .i64 3) ∧ ∃ q, w' = w.drewN q := by
  have hN := Next_calls h
  obtain ⟨h1, h2, A, cap, hh, hO⟩ := h
  obtain ⟨⟨c0, c1, c2, c3, c4⟩, hf⟩ := five_cells hh
  obtain ⟨N, hNN⟩ : ∃ N : Int, ((f + rs.length : Nat) : Int) = N := ⟨_, rfl⟩
  rw [hNN] at hN hn
  have HN := Lib.hid hN
  clear hN hNN hh hf hO h1 h2
  go_enter Try.func11, Try.ntmps11
  go_wp2_with fail
  refine HN.out.mono ?_
  rintro e w1 ⟨rfl, q1, rfl⟩
  go_wp2_with fail
  go_ret
  exact ⟨rfl, q1, rfl⟩
end Go.Proofs.Ytlnjadnddldjeaa
