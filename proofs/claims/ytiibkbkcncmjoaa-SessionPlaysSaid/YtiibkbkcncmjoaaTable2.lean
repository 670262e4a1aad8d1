/-
  Contracts of package session's Ask, Done, Last, for any client and any number.
-/
import Derived.Test.YtiibkbkcncmjoaaTable
namespace Go.Proofs.Ytiibkbkcncmjoaa
open Go.RowKit
set_option linter.unusedVariables false
set_option linter.unusedSimpArgs false

/-- what Ask tells -/
def show_ (f : Nat → SRec) (c q : Int) : Int := if c < 0 ∨ 16 ≤ c ∨ q < 1 ∨ 1073741824 < q then 0 else if (f c.toNat).q < q then 1 else if q = (f c.toNat).q then 2 else 3
/-- what Ask answers -/
def sans (f : Nat → SRec) (c q : Int) : SRec := if show_ f c q = 2 then f c.toNat else SRec.zero
def SRec.rep (r : SRec) : Value := Go.Proofs.Ytiibkbkcncmjoaa.rep r.y r.a r.z

set_option maxRecDepth 100000 in
theorem Ask_out {w : World} {T : Nat} {c q : Int} (hc : -9223372036854775808 ≤ c ∧ c ≤ 9223372036854775807) (hq : -9223372036854775808 ≤ q ∧ q ≤ 9223372036854775807) (h : c < 0 ∨ 16 ≤ c ∨ q < 1 ∨ 1073741824 < q) :
    Calls Try.prog 41 #[.pointer (some ⟨T, 0, none⟩), .int .i64 c, .int .i64 q] w fun e w' => e = .returned (.tuple #[.int .i64 0, rep 0 0 ⟨#[]⟩]) ∧ Chg (fun _ => False) w w' := by
  have hcase : c < 0 ∨ (¬ c < 0 ∧ 16 ≤ c) ∨ (¬ c < 0 ∧ ¬ 16 ≤ c ∧ q < 1) ∨ (¬ c < 0 ∧ ¬ 16 ≤ c ∧ ¬ q < 1 ∧ 1073741824 < q) := by omega
  clear h
  rcases hcase with h1 | ⟨h1, h2⟩ | ⟨h1, h2, h3⟩ | ⟨h1, h2, h3, h4⟩
  all_goals
    go_enter Try.func41, Try.ntmps41
    go_wp2_with fail
    refine bodyPost_ret (v := .tuple #[.int .i64 0, rep 0 0 ⟨#[]⟩]) ?_ rfl ?_
    · simp only [results, show Try.f41.results = #[.tmp 6, .cell 7 60] from rfl, rep]
      go_simp
    · exact ⟨rfl, (Chg.refl _ w).alloc _⟩

set_option maxRecDepth 100000 in
theorem Ask_past {w : World} {T k : Nat} {s q y a : Int} {z : ByteArray} (h : Rec w T k s y a z) (hk : k < 16) (hq : 1 ≤ q ∧ q ≤ 1073741824) (hs : q < s) :
    Calls Try.prog 41 #[.pointer (some ⟨T, 0, none⟩), .int .i64 (k : Int), .int .i64 q] w fun e w' => e = .returned (.tuple #[.int .i64 3, rep 0 0 ⟨#[]⟩]) ∧ Chg (fun _ => False) w w' := by
  obtain ⟨h0, h1, h2, h3, f0, f1, f2, f3⟩ := h
  have hTlt : T < w.heap.size := World.block_lt_of_cell? w ⟨T, k * 4, none⟩ h0
  have hTne : ¬ T = w.heap.size := by omega
  have hTne' : ¬ w.heap.size = T := by omega
  have hk16 : (k : Int) < 16 := by omega
  have hk0 : ¬ (k : Int) < 0 := by omega
  have hk1 : ¬ (16 : Int) ≤ (k : Int) := by omega
  have hq0 : ¬ q < 1 := by omega
  have hq1 : ¬ (1073741824 : Int) < q := by omega
  have hs1 : ¬ s < q := by omega
  have hs2 : (q == s) = false := beq_eq_false_iff_ne.2 (by omega)
  go_enter Try.func41, Try.ntmps41
  go_wp2_with fail
  refine bodyPost_ret (v := .tuple #[.int .i64 3, rep 0 0 ⟨#[]⟩]) ?_ rfl ?_
  · simp only [results, show Try.f41.results = #[.tmp 6, .cell 7 60] from rfl, rep]
    go_simp
  · exact ⟨rfl, (Chg.refl _ w).alloc _⟩

theorem Ask_calls {w : World} {T : Nat} {f : Nat → SRec} {c q : Int} (ht : TblAt w T f) (hc : -9223372036854775808 ≤ c ∧ c ≤ 9223372036854775807) (hq : -9223372036854775808 ≤ q ∧ q ≤ 9223372036854775807) :
    Calls Try.prog 41 #[.pointer (some ⟨T, 0, none⟩), .int .i64 c, .int .i64 q] w fun e w' => e = .returned (.tuple #[.int .i64 (show_ f c q), (sans f c q).rep]) ∧ Chg (fun _ => False) w w' := by
  by_cases hout : c < 0 ∨ 16 ≤ c ∨ q < 1 ∨ 1073741824 < q
  · have e1 : show_ f c q = 0 := by rw [show_, if_pos hout]
    have e2 : sans f c q = SRec.zero := by rw [sans, if_neg (by rw [e1]; decide)]
    rw [e1, e2]
    exact Ask_out hc hq hout
  · obtain ⟨k, rfl⟩ := Int.eq_ofNat_of_zero_le (show 0 ≤ c by omega)
    have hk : k < 16 := by omega
    have hr := ht.rec hk
    have hq' : 1 ≤ q ∧ q ≤ 1073741824 := by omega
    have ek : ((k : Int)).toNat = k := Int.toNat_natCast k
    have e0 : show_ f (k : Int) q = if (f k).q < q then 1 else if q = (f k).q then 2 else 3 := by rw [show_, if_neg hout, ek]
    by_cases h1 : (f k).q < q
    · have e1 : show_ f (k : Int) q = 1 := by rw [e0, if_pos h1]
      have e2 : sans f (k : Int) q = SRec.zero := by rw [sans, if_neg (by rw [e1]; decide)]
      rw [e1, e2]
      exact Ask_new hr hk hq' h1
    · by_cases h2 : q = (f k).q
      · have e1 : show_ f (k : Int) q = 2 := by rw [e0, if_neg h1, if_pos h2]
        have e2 : sans f (k : Int) q = f k := by rw [sans, if_pos e1, ek]
        rw [e1, e2]
        exact Ask_again hr hk hq' h2
      · have e1 : show_ f (k : Int) q = 3 := by rw [e0, if_neg h1, if_neg h2]
        have e2 : sans f (k : Int) q = SRec.zero := by rw [sans, if_neg (by rw [e1]; decide)]
        rw [e1, e2]
        exact Ask_past hr hk hq' (by omega)

set_option maxRecDepth 100000 in
theorem Done_no {w : World} {T : Nat} {f : Nat → SRec} {c q y' a' : Int} {z' : ByteArray} (ht : TblAt w T f) (hc : -9223372036854775808 ≤ c ∧ c ≤ 9223372036854775807) (hq : -9223372036854775808 ≤ q ∧ q ≤ 9223372036854775807) (hn : show_ f c q ≠ 1) :
    Calls Try.prog 42 #[.pointer (some ⟨T, 0, none⟩), .int .i64 c, .int .i64 q, rep y' a' z'] w fun e w' => e = .returned (.int .i64 1) ∧ Chg (fun _ => False) w w' := by
  have ha := Ask_calls (ht.keep ((Chg.refl (fun _ => False) w).alloc (.cells #[.int .i64 y', .int .i64 a', .string z'] 60))) hc hq
  have hb : (show_ f c q != 1) = true := by simp [hn]
  have HA := Lib.hid ha
  clear ha hn
  generalize show_ f c q = how at HA hb
  generalize sans f c q = r at HA
  rw [rep]
  go_enter Try.func42, Try.ntmps42
  go_wp2_with fail
  refine HA.out.mono ?_
  rintro e w1 ⟨rfl, hc1⟩
  rw [show r.rep = .agg #[.int .i64 r.y, .int .i64 r.a, .string r.z] from rfl]
  go_wp2_with fail
  go_ret
  exact ⟨rfl, (((Chg.refl (fun _ => False) w).alloc _).trans hc1 (fun _ _ h => h)).alloc _⟩

/-- the table behind a Done -/
def sdone (f : Nat → SRec) (c q y a : Int) (z : ByteArray) : Nat → SRec := if show_ f c q = 1 then supd f c.toNat ⟨q, y, a, z⟩ else f
def sdoneWhy (f : Nat → SRec) (c q : Int) : Int := if show_ f c q = 1 then 0 else 1
theorem SDone_calls {w : World} {T : Nat} {f : Nat → SRec} {c q y a : Int} {z : ByteArray} (ht : TblAt w T f) (hc : -9223372036854775808 ≤ c ∧ c ≤ 9223372036854775807) (hq : -9223372036854775808 ≤ q ∧ q ≤ 9223372036854775807) :
    Calls Try.prog 42 #[.pointer (some ⟨T, 0, none⟩), .int .i64 c, .int .i64 q, rep y a z] w fun e w' => e = .returned (.int .i64 (sdoneWhy f c q)) ∧ TblAt w' T (sdone f c q y a z) ∧ Chg (fun i => i = T) w w' := by
  by_cases h : show_ f c q = 1
  · have e1 : sdoneWhy f c q = 0 := by rw [sdoneWhy, if_pos h]
    have e2 : sdone f c q y a z = supd f c.toNat ⟨q, y, a, z⟩ := by rw [sdone, if_pos h]
    have hin : ¬ (c < 0 ∨ 16 ≤ c ∨ q < 1 ∨ 1073741824 < q) := fun hh => by rw [show_, if_pos hh] at h; revert h; decide
    rw [show_, if_neg hin] at h
    rw [e1, e2]
    obtain ⟨k, rfl⟩ := Int.eq_ofNat_of_zero_le (show 0 ≤ c by omega)
    rw [Int.toNat_natCast] at h ⊢
    have hlt : (f k).q < q := by
      by_cases hh : (f k).q < q
      · exact hh
      · rw [if_neg hh] at h
        split at h <;> (exfalso; omega)
    exact Done_new ht (by omega) (by omega) hlt
  · have e1 : sdoneWhy f c q = 1 := by rw [sdoneWhy, if_neg h]
    have e2 : sdone f c q y a z = f := by rw [sdone, if_neg h]
    rw [e1, e2]
    exact (Done_no ht hc hq h).mono fun e w' ⟨he, hw⟩ => ⟨he, ht.keep hw, hw.mono fun _ _ h => h.elim⟩

/-- a client's last number -/
def slast (f : Nat → SRec) (c : Int) : Int := if c < 0 ∨ 16 ≤ c then 0 else (f c.toNat).q
theorem Last_calls {w : World} {T : Nat} {f : Nat → SRec} {c : Int} (ht : TblAt w T f) (hc : -9223372036854775808 ≤ c ∧ c ≤ 9223372036854775807) :
    Calls Try.prog 45 #[.pointer (some ⟨T, 0, none⟩), .int .i64 c] w fun e w' => e = .returned (.int .i64 (slast f c)) ∧ ∃ q, w' = w.drewN q := by
  by_cases hout : c < 0 ∨ 16 ≤ c
  · rw [slast, if_pos hout]
    have hcase : c < 0 ∨ (¬ c < 0 ∧ 16 ≤ c) := by omega
    clear hout
    rcases hcase with h1 | ⟨h1, h2⟩
    all_goals
      go_enter Try.func45, Try.ntmps45
      go_wp2_with fail
      go_ret
      exact ⟨rfl, 0, rfl⟩
  · rw [slast, if_neg hout]
    obtain ⟨k, rfl⟩ := Int.eq_ofNat_of_zero_le (show 0 ≤ c by omega)
    rw [Int.toNat_natCast]
    exact Last_in (ht.rec (by omega)) (by omega)
theorem Tbl_new (w : World) :
    Calls Try.prog 40 #[] w fun e w' => e = .returned (.pointer (some ⟨w.heap.size, 0, none⟩)) ∧ TblAt w' w.heap.size (fun _ => SRec.zero) ∧ Chg (fun _ => False) w w' := by
  go_enter Try.func40, Try.ntmps40
  go_wp2_with fail
  go_ret
  exact ⟨rfl, heap_alloc_new w _, (Chg.refl _ w).alloc _⟩
end Go.Proofs.Ytiibkbkcncmjoaa
