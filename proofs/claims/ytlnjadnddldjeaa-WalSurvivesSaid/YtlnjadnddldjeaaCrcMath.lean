/-
  The plain arithmetic of the sum of chapter 2: one step on a state, a byte, a list of bytes; that states never meet again once they differ; seals. No program in sight, no condition.
-/
import Derived.WalkKit
namespace Go.Proofs.Ytlnjadnddldjeaa

def poly : Nat := 3988292384
def cstep (c : Nat) : Nat := if c % 2 = 1 then (c / 2) ^^^ poly else c / 2
def cbyte (c : Nat) : Nat := cstep (cstep (cstep (cstep (cstep (cstep (cstep (cstep c)))))))
def crun (c : Nat) (l : List UInt8) : Nat := l.foldl (fun c b => cbyte (c ^^^ b.toNat)) c
def crc (l : List UInt8) : Nat := crun 4294967295 l ^^^ 4294967295
def le4 (n : Nat) : List UInt8 := [UInt8.ofNat (n % 256), UInt8.ofNat (n / 256 % 256), UInt8.ofNat (n / 65536 % 256), UInt8.ofNat (n / 16777216 % 256)]
def sealed (l : List UInt8) : List UInt8 := le4 (crc l) ++ l
def opens (l : List UInt8) : Bool := decide (4 ≤ l.length) && (le4 (crc (l.drop 4)) == l.take 4)

theorem xor_lt32 {a b : Nat} (ha : a < 4294967296) (hb : b < 4294967296) : a ^^^ b < 4294967296 := Nat.xor_lt_two_pow (n := 32) ha hb
theorem cstep_lt {c : Nat} (h : c < 4294967296) : cstep c < 4294967296 := by
  unfold cstep
  split
  · exact xor_lt32 (by omega) (by decide)
  · omega
theorem cbyte_lt {c : Nat} (h : c < 4294967296) : cbyte c < 4294967296 := by
  unfold cbyte
  iterate 8 apply cstep_lt
  exact h
theorem xor_byte_lt {c : Nat} (h : c < 4294967296) (b : UInt8) : c ^^^ b.toNat < 4294967296 := xor_lt32 h (by have := b.toNat_lt; omega)
theorem crun_lt {l : List UInt8} : ∀ {c : Nat}, c < 4294967296 → crun c l < 4294967296 := by
  induction l with
  | nil => intro c h; exact h
  | cons b l ih => intro c h; exact ih (cbyte_lt (xor_byte_lt h b))
theorem crc_lt (l : List UInt8) : crc l < 4294967296 := xor_lt32 (crun_lt (by decide)) (by decide)
theorem crun_append (c : Nat) (l r : List UInt8) : crun c (l ++ r) = crun (crun c l) r := List.foldl_append
theorem crun_snoc (c : Nat) (l : List UInt8) (b : UInt8) : crun c (l ++ [b]) = cbyte (crun c l ^^^ b.toNat) := by rw [crun_append]; rfl

theorem cstep_bit {c : Nat} (h : c < 4294967296) : (cstep c).testBit 31 = decide (c % 2 = 1) := by
  have h0 : (c / 2).testBit 31 = false := Nat.testBit_lt_two_pow (by omega)
  unfold cstep
  split
  · rename_i h1
    rw [Nat.testBit_xor, h0, show poly.testBit 31 = true by decide]
    simp [h1]
  · rename_i h1
    rw [h0]
    simp [h1]
theorem xor_cancel {a b c : Nat} (h : a ^^^ c = b ^^^ c) : a = b := by
  have h1 : a ^^^ c ^^^ c = b ^^^ c ^^^ c := by rw [h]
  simpa [Nat.xor_assoc] using h1
theorem xor_cancel_left {a b c : Nat} (h : c ^^^ a = c ^^^ b) : a = b := by
  rw [Nat.xor_comm c a, Nat.xor_comm c b] at h
  exact xor_cancel h
theorem cstep_inj {a b : Nat} (ha : a < 4294967296) (hb : b < 4294967296) (h : cstep a = cstep b) : a = b := by
  have h1 := cstep_bit ha
  have h2 := cstep_bit hb
  rw [h, h2] at h1
  have h3 : (b % 2 = 1) ↔ (a % 2 = 1) := by simpa using h1
  unfold cstep at h
  by_cases ho : a % 2 = 1
  · rw [if_pos ho, if_pos (h3.2 ho)] at h
    have := xor_cancel h
    have := h3.2 ho
    omega
  · rw [if_neg ho, if_neg (fun hb => ho (h3.1 hb))] at h
    have : ¬ b % 2 = 1 := fun hb => ho (h3.1 hb)
    omega
theorem cbyte_inj {a b : Nat} (ha : a < 4294967296) (hb : b < 4294967296) (h : cbyte a = cbyte b) : a = b := by
  unfold cbyte at h
  repeat (first
    | exact cstep_inj ha hb h
    | (replace h := cstep_inj (by (repeat apply cstep_lt); exact ha) (by (repeat apply cstep_lt); exact hb) h))
theorem crun_inj {l : List UInt8} : ∀ {a b : Nat}, a < 4294967296 → b < 4294967296 → crun a l = crun b l → a = b := by
  induction l with
  | nil => intro a b _ _ h; exact h
  | cons x l ih =>
    intro a b ha hb h
    exact xor_cancel (cbyte_inj (xor_byte_lt ha x) (xor_byte_lt hb x) (ih (cbyte_lt (xor_byte_lt ha x)) (cbyte_lt (xor_byte_lt hb x)) h))
/-- one byte that is another one turns the sum -/
theorem crc_turn (l r : List UInt8) (x y : UInt8) (h : x ≠ y) : crc (l ++ x :: r) ≠ crc (l ++ y :: r) := by
  intro he
  have h1 := xor_cancel he
  rw [crun_append, crun_append] at h1
  have hl : crun 4294967295 l < 4294967296 := crun_lt (by decide)
  have h2 := crun_inj (l := r) (cbyte_lt (xor_byte_lt hl x)) (cbyte_lt (xor_byte_lt hl y)) h1
  have h3 := xor_cancel_left (cbyte_inj (xor_byte_lt hl x) (xor_byte_lt hl y) h2)
  exact h (UInt8.toNat_inj.1 h3)
theorem le4_length (n : Nat) : (le4 n).length = 4 := rfl
theorem ofNat_mod_inj {a b : Nat} (ha : a < 256) (hb : b < 256) (h : UInt8.ofNat a = UInt8.ofNat b) : a = b := by
  have := congrArg UInt8.toNat h
  simpa [UInt8.toNat_ofNat, Nat.mod_eq_of_lt ha, Nat.mod_eq_of_lt hb] using this
theorem le4_inj {a b : Nat} (ha : a < 4294967296) (hb : b < 4294967296) (h : le4 a = le4 b) : a = b := by
  simp only [le4, List.cons.injEq, and_true] at h
  obtain ⟨h1, h2, h3, h4⟩ := h
  have e1 := ofNat_mod_inj (Nat.mod_lt _ (by decide)) (Nat.mod_lt _ (by decide)) h1
  have e2 := ofNat_mod_inj (Nat.mod_lt _ (by decide)) (Nat.mod_lt _ (by decide)) h2
  have e3 := ofNat_mod_inj (Nat.mod_lt _ (by decide)) (Nat.mod_lt _ (by decide)) h3
  have e4 := ofNat_mod_inj (Nat.mod_lt _ (by decide)) (Nat.mod_lt _ (by decide)) h4
  omega
theorem sealed_length (l : List UInt8) : (sealed l).length = l.length + 4 := by simp [sealed, le4_length]; omega
theorem sealed_drop (l : List UInt8) : (sealed l).drop 4 = l := by simp [sealed, le4]
theorem sealed_take (l : List UInt8) : (sealed l).take 4 = le4 (crc l) := by simp [sealed, le4]
theorem opens_sealed (l : List UInt8) : opens (sealed l) = true := by
  simp [opens, sealed_length, sealed_drop, sealed_take]
theorem opens_iff (l : List UInt8) : opens l = true ↔ 4 ≤ l.length ∧ sealed (l.drop 4) = l := by
  simp only [opens, Bool.and_eq_true, decide_eq_true_eq, beq_iff_eq]
  constructor
  · rintro ⟨h, e⟩
    exact ⟨h, by rw [sealed, e]; exact List.take_append_drop 4 l⟩
  · rintro ⟨h, e⟩
    refine ⟨h, ?_⟩
    have := congrArg (List.take 4) e
    rwa [sealed_take] at this
/-- one byte of a sealed list that is another one is told -/
theorem opens_turned (l : List UInt8) (k : Nat) (hk : k < (sealed l).length) (y : UInt8) (hy : y ≠ (sealed l)[k]) : opens ((sealed l).set k y) = false := by
  rw [Bool.eq_false_iff]
  intro ho
  obtain ⟨_, he⟩ := (opens_iff _).1 ho
  have hlen := sealed_length l
  by_cases h4 : k < 4
  · have hd : ((sealed l).set k y).drop 4 = l := by rw [List.drop_set_of_lt h4, sealed_drop]
    rw [hd] at he
    have := congrArg (·[k]?) he
    simp only [List.getElem?_set, hk, List.getElem?_eq_getElem hk] at this
    simp at this
    exact hy this.symm
  · have hd : ((sealed l).set k y).drop 4 = l.set (k - 4) y := by
      rw [List.drop_set, if_neg h4, sealed_drop]
    rw [hd] at he
    have ht := congrArg (List.take 4) he
    rw [sealed_take, List.take_set_of_le (by omega), sealed_take] at ht
    have hc := le4_inj (crc_lt _) (crc_lt _) ht
    have hk' : k - 4 < l.length := by omega
    have hx : l[k - 4] = (sealed l)[k] := by
      have h1 : (sealed l)[k] = (le4 (crc l) ++ l)[k]'(by simpa [sealed] using hk) := rfl
      rw [h1, List.getElem_append_right (by simp [le4_length]; omega)]
      simp [le4_length]
    have hs : l.set (k - 4) y = l.take (k - 4) ++ y :: l.drop (k - 4 + 1) := by rw [List.set_eq_take_append_cons_drop, if_pos hk']
    have hl : l = l.take (k - 4) ++ l[k - 4] :: l.drop (k - 4 + 1) := by
      rw [List.getElem_cons_drop hk' , List.take_append_drop]
    rw [hs] at hc
    have := crc_turn (l.take (k - 4)) (l.drop (k - 4 + 1)) y l[k - 4] (by rw [hx]; exact hy)
    exact this (by rw [← hl]; exact hc)
end Go.Proofs.Ytlnjadnddldjeaa
