/-
  Contracts of a log's Put where the record is too long; of law 21's few and fresh's disk.
-/
import Derived.Test.YtlnjadnddldjeaaLog5
namespace Go.Proofs.Ytlnjadnddldjeaa
open Go.RowKit
set_option linter.unusedVariables false
set_option linter.unusedSimpArgs false

/-- the first 100 bytes of a text -/
def few21 (s : ByteArray) : ByteArray := if 100 < s.size then s.extract 0 100 else s
theorem few21_size (s : ByteArray) : (few21 s).size ≤ 100 := by
  unfold few21
  split
  · simp; omega
  · omega
theorem few_calls (w : World) (s : ByteArray) :
    Calls Try.prog 12 #[.string s] w fun e w' => e = .returned (.string (few21 s)) ∧ w = w' := by
  by_cases h : 100 < s.size
  · have e : few21 s = s.extract 0 100 := by unfold few21; rw [if_pos h]
    rw [e]
    have hz' : (100 : Int) < (s.size : Int) := by omega
    have hz2 : ¬ (s.size : Int) < (100 : Int) := by omega
    have hz3 : (100 : Int) ≤ (s.size : Int) := by omega
    have hz4 : 100 ≤ s.size := by omega
    clear e
    go_enter Try.func12, Try.ntmps12
    go_wp2_with fail
    go_ret
    exact ⟨rfl, rfl⟩
  · have e : few21 s = s := by unfold few21; rw [if_neg h]
    rw [e]
    have hz' : ¬ (100 : Int) < (s.size : Int) := by omega
    clear e
    go_enter Try.func12, Try.ntmps12
    go_wp2_with fail
    go_ret
    exact ⟨rfl, rfl⟩
end Go.Proofs.Ytlnjadnddldjeaa
