/-
  Plain laws: numbers as bytes, the lowest first; what a reader of bytes gives and where it stands then. No program in sight, no condition.
-/
import Derived.KernelRfl
namespace Go.Proofs.Ytlnjadnddldjeaa
set_option linter.unusedVariables false

/-- the k lowest bytes of a number, the lowest first -/
def le : Nat → Nat → List UInt8
  | 0, _ => []
  | k + 1, n => UInt8.ofNat (n % 256) :: le k (n / 256)
/-- the number that bytes are, the lowest first -/
def num : List UInt8 → Nat
  | [] => 0
  | b :: r => b.toNat + 256 * num r
theorem le_length : ∀ k n, (le k n).length = k
  | 0, _ => rfl
  | k + 1, n => by rw [le, List.length_cons, le_length k]
theorem byte_nat (n : Nat) : (UInt8.ofNat (n % 256)).toNat = n % 256 := by
  rw [UInt8.toNat_ofNat']
  exact Nat.mod_mod _ _
theorem num_le : ∀ k n, num (le k n) = n % 256 ^ k
  | 0, n => by rw [le, num, Nat.pow_zero, Nat.mod_one]
  | k + 1, n => by
    rw [le, num, num_le k, byte_nat, Nat.pow_succ, Nat.mul_comm (256 ^ k) 256, Nat.mod_mul]
theorem num_lt : ∀ l : List UInt8, num l < 256 ^ l.length
  | [] => by rw [num]; decide
  | b :: r => by
    have h := num_lt r
    have hb := b.toNat_lt
    rw [num, List.length_cons, Nat.pow_succ, Nat.mul_comm (256 ^ r.length) 256]
    omega
theorem le_split (a b n : Nat) : le (a + b) n = le a n ++ le b (n / 256 ^ a) := by
  induction a generalizing n with
  | zero => simp [le]
  | succ a ih =>
    rw [show a + 1 + b = (a + b) + 1 by omega, le, le, ih, Nat.div_div_eq_div_mul, Nat.pow_succ, Nat.mul_comm (256 ^ a) 256]
    rfl
theorem num_lt8 {l : List UInt8} (h : l.length ≤ 8) : num l < 18446744073709551616 := by
  have h1 := num_lt l
  have h2 : 256 ^ l.length ≤ 256 ^ 8 := Nat.pow_le_pow_right (by decide) h
  have h3 : 256 ^ 8 = 18446744073709551616 := by decide
  omega
theorem num_lt7 {l : List UInt8} (h : l.length ≤ 7) : num l < 72057594037927936 := by
  have h1 := num_lt l
  have h2 : 256 ^ l.length ≤ 256 ^ 7 := Nat.pow_le_pow_right (by decide) h
  have h3 : 256 ^ 7 = 72057594037927936 := by decide
  omega
theorem num_lt2 {l : List UInt8} (h : l.length ≤ 2) : num l < 65536 := by
  have h1 := num_lt l
  have h2 : 256 ^ l.length ≤ 256 ^ 2 := Nat.pow_le_pow_right (by decide) h
  have h3 : 256 ^ 2 = 65536 := by decide
  omega
theorem num_lt1 {l : List UInt8} (h : l.length ≤ 1) : num l < 256 := by
  have h1 := num_lt l
  have h2 : 256 ^ l.length ≤ 256 ^ 1 := Nat.pow_le_pow_right (by decide) h
  have h3 : 256 ^ 1 = 256 := by decide
  omega
/-- one byte more at the front -/
theorem num_drop {l : List UInt8} {i : Nat} (h : i < l.length) : num (l.drop i) = l[i].toNat + 256 * num (l.drop (i + 1)) := by
  rw [List.drop_eq_getElem_cons h, num]

/-- where a reader stands: the place, why it refused (0: it did not), the refusal's place -/
structure RS where
  p : Nat
  y : Int
  z : Int
/-- so many bytes are read -/
def rtake (l : List UInt8) (n : Nat) (s : RS) : List UInt8 × RS :=
  if s.y = 0 then (if l.length - s.p < n then ([], ⟨s.p, 10, (l.length : Int)⟩) else ((l.drop s.p).take n, ⟨s.p + n, 0, s.z⟩)) else ([], s)
/-- a text is read -/
def rtext (l : List UInt8) (most : Int) (s : RS) : List UInt8 × RS :=
  if (rtake l 2 s).2.y = 0 ∧ max most 0 < (num (rtake l 2 s).1 : Int) then ([], ⟨(rtake l 2 s).2.p, 3, (s.p : Int)⟩) else rtake l (num (rtake l 2 s).1) (rtake l 2 s).2
def rfail (why : Int) (s : RS) : RS := if s.y = 0 ∧ why ≠ 0 then ⟨s.p, why, (s.p : Int)⟩ else s
def rleft (l : List UInt8) (s : RS) : Int := if s.y = 0 then ((l.length - s.p : Nat) : Int) else 0
def rwhy (l : List UInt8) (s : RS) : Int := if s.y = 0 then (if s.p < l.length then 11 else 0) else s.y
def rwhere (l : List UInt8) (s : RS) : Int := if s.y = 0 then (if s.p < l.length then (s.p : Int) else 0) else s.z

theorem rtake_off {l : List UInt8} {n : Nat} {s : RS} (h : s.y ≠ 0) : rtake l n s = ([], s) := by rw [rtake, if_neg h]
theorem rtake_short {l : List UInt8} {n : Nat} {s : RS} (h : s.y = 0) (h2 : l.length - s.p < n) : rtake l n s = ([], ⟨s.p, 10, (l.length : Int)⟩) := by rw [rtake, if_pos h, if_pos h2]
theorem rtake_ok {l : List UInt8} {n : Nat} {s : RS} (h : s.y = 0) (h2 : ¬ l.length - s.p < n) : rtake l n s = ((l.drop s.p).take n, ⟨s.p + n, 0, s.z⟩) := by rw [rtake, if_pos h, if_neg h2]
theorem rtake_le (l : List UInt8) (n : Nat) (s : RS) : (rtake l n s).1.length ≤ n := by
  unfold rtake
  split
  · split
    · simp
    · simp only [List.length_take]; omega
  · simp
theorem rtake_in {l : List UInt8} {n : Nat} {s : RS} (h : s.p ≤ l.length) : (rtake l n s).2.p ≤ l.length := by
  unfold rtake
  split
  · split
    · exact h
    · simp only; omega
  · exact h
/-- what was written is read -/
theorem rtake_at {l pre x post : List UInt8} {n p : Nat} {z : Int} (hl : l = pre ++ (x ++ post)) (hp : p = pre.length) (hn : n = x.length) : rtake l n ⟨p, 0, z⟩ = (x, ⟨p + n, 0, z⟩) := by
  subst hl; subst hp; subst hn
  rw [rtake_ok rfl (by simp)]
  simp
end Go.Proofs.Ytlnjadnddldjeaa
