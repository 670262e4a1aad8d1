/-
  Plain laws of tables whose records fit: they stay so behind a Done; what they come to as bytes is short.
-/
import Derived.Test.YtiibkbkcncmjoaaLoad
namespace Go.Proofs.Ytiibkbkcncmjoaa
set_option linter.unusedVariables false
set_option linter.unusedSimpArgs false

def STame (f : Nat → SRec) : Prop := ∀ k, (f k).fits ∧ svalid (f k) ∧ (f k).z.size ≤ 100
theorem zero_ok : SRec.zero.fits ∧ svalid SRec.zero ∧ SRec.zero.z.size ≤ 100 := ⟨by unfold SRec.fits; decide, ⟨by decide, by decide, fun _ => ⟨rfl, rfl, rfl⟩⟩, by decide⟩
theorem tame_zero : STame (fun _ => SRec.zero) := fun _ => zero_ok
theorem show_one {f : Nat → SRec} {c q : Int} (h : show_ f c q = 1) : (0 ≤ c ∧ c < 16) ∧ (1 ≤ q ∧ q ≤ 1073741824) ∧ (f c.toNat).q < q := by
  unfold show_ at h
  split at h
  · omega
  · rename_i hin
    split at h
    · rename_i hlt
      exact ⟨by omega, by omega, hlt⟩
    · split at h <;> omega
theorem tame_done {f : Nat → SRec} {c q y a : Int} {z : ByteArray} (hf : STame f) (hy : -9223372036854775808 ≤ y ∧ y ≤ 9223372036854775807) (ha : -9223372036854775808 ≤ a ∧ a ≤ 9223372036854775807) (hz : z.size ≤ 100) : STame (sdone f c q y a z) := by
  unfold sdone
  split
  · rename_i h
    obtain ⟨h1, h2, h3⟩ := show_one h
    intro k
    by_cases e : k = c.toNat
    · subst e
      rw [supd_same]
      exact ⟨⟨by simp only; omega, hy, ha, by simp only; omega⟩, ⟨by simp only; omega, by simp only; omega, fun h => by simp only at h; omega⟩, hz⟩
    · rw [supd_other _ _ e]; exact hf k
  · exact hf
theorem ssave_bound {f : Nat → SRec} {B : Nat} (h : ∀ k, (f k).z.size ≤ B) : ∀ n, (ssave f n).length ≤ n * (34 + 3 * B)
  | 0 => by simp [ssave]
  | n + 1 => by
    have ih := ssave_bound h n
    have h1 := h n
    have h2 := sput_length (f n).z.data.toList
    have e : (f n).z.data.toList.length = (f n).z.size := by rw [Array.length_toList]; rfl
    rw [ssave, List.length_append, srecb_length]
    rw [e] at h2
    have h3 : (n + 1) * (34 + 3 * B) = n * (34 + 3 * B) + (34 + 3 * B) := Nat.succ_mul _ _
    omega
theorem tame_save {f : Nat → SRec} (hf : STame f) : (ssave f 16).length ≤ 10000 := by
  have h := ssave_bound (f := f) (B := 100) (fun k => (hf k).2.2) 16
  omega
theorem ssave_pos1 (f : Nat → SRec) (n : Nat) : 0 < (ssave f (n + 1)).length := by
  rw [ssave, List.length_append, srecb_length]; omega
theorem ssave_pos (f : Nat → SRec) : 0 < (ssave f 16).length := ssave_pos1 f 15
/-- a Done of the greatest number leaves it as the last -/
theorem last_most {f : Nat → SRec} (hf : STame f) : slast (sdone f 3 1073741824 0 0 ⟨#[]⟩) 3 = 1073741824 := by
  unfold slast
  rw [if_neg (by decide)]
  unfold sdone
  split
  · exact congrArg SRec.q (supd_same _ _ _)
  · rename_i h
    have hv := (hf 3).2.1.2.1
    unfold show_ at h
    rw [if_neg (by decide)] at h
    show (f 3).q = 1073741824
    by_cases h1 : (f 3).q < 1073741824
    · exact absurd (if_pos h1) h
    · omega
end Go.Proofs.Ytiibkbkcncmjoaa
