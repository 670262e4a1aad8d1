/-
  Plain laws for WireBack: the bytes of parts, one behind the other, and what a reader gives of them.
-/
import Derived.Test.YtiibkbkcncmjoaaWireFew
import Derived.Test.YtiibkbkcncmjoaaParts
namespace Go.Proofs.Ytiibkbkcncmjoaa
open Go.RowKit
set_option linter.unusedVariables false
set_option linter.unusedSimpArgs false

/-- the parts in memory, as a function of their place -/
theorem parts_fun {B : Nat} {w : World} {b off n : Nat} (h : ∀ i, i < n → PartAt B w b (off + i * 4)) :
    ∃ q : Nat → Int × Int × Int × ByteArray, ∀ i, i < n → w.cell? ⟨b, off + i * 4, none⟩ = some (.int .i64 (q i).1) ∧ w.cell? ⟨b, off + i * 4 + 1, none⟩ = some (.int .i64 (q i).2.1) ∧ w.cell? ⟨b, off + i * 4 + 2, none⟩ = some (.int .i64 (q i).2.2.1) ∧ w.cell? ⟨b, off + i * 4 + 3, none⟩ = some (.string (q i).2.2.2) ∧
      (-9223372036854775808 ≤ (q i).1 ∧ (q i).1 ≤ 9223372036854775807) ∧ (-9223372036854775808 ≤ (q i).2.1 ∧ (q i).2.1 ≤ 9223372036854775807) ∧ (-9223372036854775808 ≤ (q i).2.2.1 ∧ (q i).2.2.1 ≤ 9223372036854775807) ∧ (q i).2.2.2.size ≤ B := by
  have h' : ∀ i, ∃ q : Int × Int × Int × ByteArray, i < n → w.cell? ⟨b, off + i * 4, none⟩ = some (.int .i64 q.1) ∧ w.cell? ⟨b, off + i * 4 + 1, none⟩ = some (.int .i64 q.2.1) ∧ w.cell? ⟨b, off + i * 4 + 2, none⟩ = some (.int .i64 q.2.2.1) ∧ w.cell? ⟨b, off + i * 4 + 3, none⟩ = some (.string q.2.2.2) ∧
      (-9223372036854775808 ≤ q.1 ∧ q.1 ≤ 9223372036854775807) ∧ (-9223372036854775808 ≤ q.2.1 ∧ q.2.1 ≤ 9223372036854775807) ∧ (-9223372036854775808 ≤ q.2.2.1 ∧ q.2.2.1 ≤ 9223372036854775807) ∧ q.2.2.2.size ≤ B := fun i => by
    by_cases hi : i < n
    · obtain ⟨k, m, d, s, hh⟩ := h i hi
      exact ⟨(k, m, d, s), fun _ => hh⟩
    · exact ⟨(0, 0, 0, ⟨#[]⟩), fun h => absurd h hi⟩
  exact ⟨fun i => (h' i).choose, fun i hi => (h' i).choose_spec hi⟩

/-- the bytes of one part of WireBack -/
def bchunk (m d : Int) (f : ByteArray) : List UInt8 := le 1 (u64 m) ++ (le 2 (u64 m) ++ (le 8 (u64 d) ++ (le 2 f.size ++ f.data.toList)))
theorem bchunk_length (m d : Int) (f : ByteArray) : (bchunk m d f).length = 13 + f.size := by
  have e : f.data.toList.length = f.size := by rw [Array.length_toList]; rfl
  simp only [bchunk, List.length_append, le_length, e]; omega
def ball (q : Nat → Int × Int × Int × ByteArray) : Nat → List UInt8
  | 0 => []
  | i + 1 => ball q i ++ bchunk (q i).2.1 (q i).2.2.1 (few (q i).2.2.2)
theorem ball_length (q : Nat → Int × Int × Int × ByteArray) : ∀ i, (ball q i).length ≤ i * 65548
  | 0 => by simp [ball]
  | i + 1 => by
    have h1 := ball_length q i
    have h2 := few_size (q i).2.2.2
    rw [ball, List.length_append, bchunk_length]
    omega
theorem ball_split (q : Nat → Int × Int × Int × ByteArray) {i : Nat} : ∀ {n : Nat}, i < n → ∃ post, ball q n = ball q i ++ (bchunk (q i).2.1 (q i).2.2.1 (few (q i).2.2.2) ++ post)
  | 0, h => absurd h (by omega)
  | n + 1, h => by
    by_cases e : i = n
    · subst e
      exact ⟨[], by rw [ball, List.append_nil]⟩
    · obtain ⟨post, hp⟩ := ball_split q (i := i) (n := n) (by omega)
      exact ⟨post ++ bchunk (q n).2.1 (q n).2.2.1 (few (q n).2.2.2), by rw [ball, hp]; simp⟩
theorem str_self (f : ByteArray) : str f.data.toList = f := by
  cases f; rfl
/-- the four reads of one part -/
theorem breads {l pre post : List UInt8} {m d : Int} {f : ByteArray} (hl : l = pre ++ (bchunk m d f ++ post)) (hf : f.size ≤ 65535) (hd : -9223372036854775808 ≤ d ∧ d ≤ 9223372036854775807) :
    rtake l 1 ⟨pre.length, 0, 0⟩ = (le 1 (u64 m), ⟨pre.length + 1, 0, 0⟩) ∧ rtake l 2 ⟨pre.length + 1, 0, 0⟩ = (le 2 (u64 m), ⟨pre.length + 3, 0, 0⟩) ∧ rtake l 8 ⟨pre.length + 3, 0, 0⟩ = (le 8 (u64 d), ⟨pre.length + 11, 0, 0⟩) ∧
      rtext l 65535 ⟨pre.length + 11, 0, 0⟩ = (f.data.toList, ⟨(pre ++ bchunk m d f).length, 0, 0⟩) ∧ s64 (num (le 8 (u64 d))) = d := by
  have e : f.data.toList.length = f.size := by rw [Array.length_toList]; rfl
  refine ⟨rtake_at (post := le 2 (u64 m) ++ (le 8 (u64 d) ++ (le 2 f.size ++ (f.data.toList ++ post)))) (by rw [hl, bchunk]; simp) rfl (le_length _ _).symm,
    rtake_at (pre := pre ++ le 1 (u64 m)) (post := le 8 (u64 d) ++ (le 2 f.size ++ (f.data.toList ++ post))) (by rw [hl, bchunk]; simp) (by simp [le_length]) (le_length _ _).symm,
    rtake_at (pre := pre ++ le 1 (u64 m) ++ le 2 (u64 m)) (post := le 2 f.size ++ (f.data.toList ++ post)) (by rw [hl, bchunk]; simp) (by simp [le_length]) (le_length _ _).symm, ?_, ?_⟩
  · rw [rtext_at (pre := pre ++ le 1 (u64 m) ++ le 2 (u64 m) ++ le 8 (u64 d)) (s := f.data.toList) (post := post) (by rw [hl, bchunk, e]; simp) (by simp [le_length]) (by omega) (by omega)]
    rw [List.length_append, bchunk_length, e]
    congr 2
    omega
  · rw [num_le]
    have h1 := u64_le d
    rw [Nat.mod_eq_of_lt (by simp; omega), s64_u64 d hd]
theorem and_low (m : Int) (k N : Nat) (hN : 2 ^ k = N) (hk : N ≤ 65536) : bits .and .i64 m ((N - 1 : Nat) : Int) = ((u64 m % N : Nat) : Int) := by
  have ho : (BitVec.ofInt 64 m).toNat = u64 m := by
    rw [BitVec.toNat_ofInt]; rfl
  have hc : (BitVec.ofInt 64 ((N - 1 : Nat) : Int)).toNat = N - 1 := by
    rw [BitVec.ofInt_natCast, BitVec.toNat_ofNat]; exact Nat.mod_eq_of_lt (by omega)
  have hp : 0 < N := by rw [← hN]; exact Nat.two_pow_pos k
  show IntKind.i64.wrap ((BitVec.ofInt 64 m &&& BitVec.ofInt 64 ((N - 1 : Nat) : Int)).toNat : Int) = _
  have hm := Nat.mod_lt (u64 m) hp
  rw [BitVec.toNat_and, ho, hc]
  rw [← hN, Nat.and_two_pow_sub_one_eq_mod, hN, s64_wrap _ (by omega)]
  unfold s64
  rw [if_pos (by omega)]
theorem and_255 (m : Int) : bits .and .i64 m 255 = ((num (le 1 (u64 m)) : Nat) : Int) := by
  rw [num_le]
  exact and_low m 8 256 rfl (by decide)
theorem and_65535 (m : Int) : bits .and .i64 m 65535 = ((num (le 2 (u64 m)) : Nat) : Int) := by
  rw [num_le]
  exact and_low m 16 65536 rfl (by decide)
end Go.Proofs.Ytiibkbkcncmjoaa
