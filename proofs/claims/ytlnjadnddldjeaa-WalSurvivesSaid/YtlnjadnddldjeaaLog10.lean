/-
  Contracts of a log's Base where it refuses.
-/
import Derived.Test.YtlnjadnddldjeaaLog9
namespace Go.Proofs.Ytlnjadnddldjeaa
open Go.RowKit
set_option linter.unusedVariables false
set_option linter.unusedSimpArgs false

set_option maxRecDepth 100000 in
theorem Base_arg {w : World} {L D f : Nat} {n : Int} {own : Option Nat} {rs : List ByteArray} {snap note s : ByteArray} (h : LogAt w L D own f rs snap note) (hn : n < (f : Int) ∨ 1073741824 < n) :
    Calls Try.prog 27 #[.pointer (some ⟨L, 0, none⟩), .int .i64 n, .string s] w fun e w' => e = .returned (.int .i64 1) ∧ w = w' := by
  obtain ⟨h1, h2, A, cap, hh, hO⟩ := h
  obtain ⟨⟨c0, c1, c2, c3, c4⟩, hf⟩ := five_cells hh
  have hcase : n < (f : Int) ∨ (¬ n < (f : Int) ∧ 1073741824 < n) := by omega
  clear hn hf hh hO h1 h2
  rcases hcase with g1 | ⟨g1, g2⟩
  all_goals
    go_enter Try.func27, Try.ntmps27
    go_wp2_with fail
    go_ret
    exact ⟨rfl, rfl⟩
set_option maxRecDepth 100000 in
theorem Base_long {w : World} {L D f : Nat} {n : Int} {own : Option Nat} {rs : List ByteArray} {snap note s : ByteArray} (h : LogAt w L D own f rs snap note) (g1 : ¬ n < (f : Int)) (g2 : ¬ 1073741824 < n) (hs : (65536 : Int) < (s.size : Int)) :
    Calls Try.prog 27 #[.pointer (some ⟨L, 0, none⟩), .int .i64 n, .string s] w fun e w' => e = .returned (.int .i64 3) ∧ w = w' := by
  obtain ⟨h1, h2, A, cap, hh, hO⟩ := h
  obtain ⟨⟨c0, c1, c2, c3, c4⟩, hf⟩ := five_cells hh
  clear hf hh hO h1 h2
  go_enter Try.func27, Try.ntmps27
  go_wp2_with fail
  go_ret
  exact ⟨rfl, rfl⟩
end Go.Proofs.Ytlnjadnddldjeaa
