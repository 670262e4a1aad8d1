/-
  The laws' own helper 'few' (a text cut to 65535 bytes), and what a reader gives of what was written. No condition.
-/
import Derived.Test.YtiibkbkcncmjoaaWireKnown
namespace Go.Proofs.Ytiibkbkcncmjoaa
open Go.RowKit
set_option linter.unusedVariables false
set_option linter.unusedSimpArgs false

theorem rtext_at {l pre s post : List UInt8} {p : Nat} {z most : Int} (hl : l = pre ++ (le 2 s.length ++ (s ++ post))) (hp : p = pre.length) (hs : s.length < 65536) (hm : (s.length : Int) ≤ max most 0) :
    rtext l most ⟨p, 0, z⟩ = (s, ⟨p + 2 + s.length, 0, z⟩) := by
  have h1 : rtake l 2 ⟨p, 0, z⟩ = (le 2 s.length, ⟨p + 2, 0, z⟩) := rtake_at hl hp (le_length _ _).symm
  have h2 : num (le 2 s.length) = s.length := by
    rw [num_le]
    exact Nat.mod_eq_of_lt (by simpa using hs)
  unfold rtext
  rw [h1]
  simp only [h2]
  rw [if_neg (fun h => by have := h.2; omega)]
  exact rtake_at (pre := pre ++ le 2 s.length) (x := s) (post := post) (by rw [hl]; simp) (by rw [List.length_append, le_length, hp]) rfl

def few (s : ByteArray) : ByteArray := if 65535 < s.size then s.extract 0 65535 else s
theorem few_size (s : ByteArray) : (few s).size ≤ 65535 := by
  unfold few
  split
  · rw [ByteArray.size_extract]; omega
  · omega
theorem few_calls (w : World) (s : ByteArray) (hs : s.size ≤ 9223372036854775807) :
    Calls Try.prog 24 #[.string s] w fun e w' => e = .returned (.string (few s)) ∧ w = w' := by
  by_cases h : 65535 < s.size
  · have e : few s = s.extract 0 65535 := by rw [few, if_pos h]
    rw [e]
    clear e
    have h' : (65535 : Int) < (s.size : Int) := by omega
    go_enter Try.func24, Try.ntmps24
    go_wp2_with fail
    go_ret
    exact ⟨rfl, rfl⟩
  · have e : few s = s := by rw [few, if_neg h]
    rw [e]
    clear e
    have h' : ¬ (65535 : Int) < (s.size : Int) := by omega
    go_enter Try.func24, Try.ntmps24
    go_wp2_with fail
    go_ret
    exact ⟨rfl, rfl⟩
end Go.Proofs.Ytiibkbkcncmjoaa
