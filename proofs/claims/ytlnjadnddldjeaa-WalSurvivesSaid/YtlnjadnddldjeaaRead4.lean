/-
  Contracts of package wire's Reader: where it stands, and what each of its calls gives.
-/
import Derived.Test.YtlnjadnddldjeaaWire4
import Derived.Deep.DeepCutAuto
namespace Go.Proofs.Ytlnjadnddldjeaa
open Go.RowKit
set_option linter.unusedVariables false
set_option linter.unusedSimpArgs false

theorem four_cells {w : World} {D : Nat} {x y z v : Value} {t : TypeId} (h : w.heap[D]? = some (.cells #[x, y, z, v] t (0, 0))) :
    (w.cell? ⟨D, 0, none⟩ = some x ∧ w.cell? ⟨D, 1, none⟩ = some y ∧ w.cell? ⟨D, 2, none⟩ = some z ∧ w.cell? ⟨D, 3, none⟩ = some v) ∧
      w.frozen? ⟨D, 0, none⟩ = false ∧ w.frozen? ⟨D, 1, none⟩ = false ∧ w.frozen? ⟨D, 2, none⟩ = false ∧ w.frozen? ⟨D, 3, none⟩ = false := by
  simp [World.cell?, World.frozen?, h]
theorem four_set1 {w : World} {D : Nat} {x y z v : Value} {t : TypeId} (h : w.heap[D]? = some (.cells #[x, y, z, v] t (0, 0))) (u : Value) : (w.setCell ⟨D, 1, none⟩ u).heap[D]? = some (.cells #[x, u, z, v] t (0, 0)) := by
  rw [heap_setCell_same w D 1 _ t u h]; rfl
theorem four_set2 {w : World} {D : Nat} {x y z v : Value} {t : TypeId} (h : w.heap[D]? = some (.cells #[x, y, z, v] t (0, 0))) (u : Value) : (w.setCell ⟨D, 2, none⟩ u).heap[D]? = some (.cells #[x, y, u, v] t (0, 0)) := by
  rw [heap_setCell_same w D 2 _ t u h]; rfl
theorem four_set3 {w : World} {D : Nat} {x y z v : Value} {t : TypeId} (h : w.heap[D]? = some (.cells #[x, y, z, v] t (0, 0))) (u : Value) : (w.setCell ⟨D, 3, none⟩ u).heap[D]? = some (.cells #[x, y, z, u] t (0, 0)) := by
  rw [heap_setCell_same w D 3 _ t u h]; rfl

/-- In w a Reader of the bytes l lies at R and stands at s; it and its array lie in V. -/
def RdAt (V : Nat → Prop) (w : World) (R : Nat) (l : List UInt8) (s : RS) : Prop :=
  V R ∧ s.p ≤ l.length ∧ l.length ≤ 140737488355328 ∧ ∃ A cap, w.heap[R]? = some (.cells #[.slice A l.length cap, .int .i64 (s.p : Int), .int .i64 s.y, .int .i64 s.z] 87 (0, 0)) ∧
    Cs w (fun k => V k ∧ k ≠ R) A l.length (bv l) ∧ l.length ≤ cap ∧ cap ≤ 9223372036854775807

namespace RdAt
variable {V V' T : Nat → Prop} {w w' : World} {R : Nat} {l : List UInt8} {s : RS}
theorem chg (h : RdAt V w R l s) (hc : Chg T w w') (hd : ∀ k, k < w.heap.size → V k → ¬ T k) : RdAt V w' R l s := by
  obtain ⟨hv, h1, h2, A, cap, hh, ho, hg⟩ := h
  exact ⟨hv, h1, h2, A, cap, hc.heap hh (hd R (lt_of_block hh) hv), ho.chg hc fun k hk hs => hd k hk hs.1, hg⟩
theorem keep (h : RdAt V w R l s) (hc : Chg (fun _ => False) w w') : RdAt V w' R l s := h.chg hc (fun _ _ _ h => h)
theorem mono (h : RdAt V w R l s) (hv' : ∀ k, k < w.heap.size → V k → V' k) : RdAt V' w R l s := by
  obtain ⟨hv, h1, h2, A, cap, hh, ho, hg⟩ := h
  exact ⟨hv' R (lt_of_block hh) hv, h1, h2, A, cap, hh, ho.mono fun k hk hs => ⟨hv' k hk hs.1, hs.2⟩, hg⟩
theorem lt (h : RdAt V w R l s) : R < w.heap.size := by
  obtain ⟨hv, h1, h2, A, cap, hh, ho, hg⟩ := h
  exact lt_of_block hh
theorem inV (h : RdAt V w R l s) : V R := h.1
theorem pos (h : RdAt V w R l s) : s.p ≤ l.length := h.2.1
end RdAt

/-- a new reader of bytes -/
def NewRd (V : Nat → Prop) (w : World) (l : List UInt8) (e : Ending) (w' : World) : Prop :=
  ∃ R, e = .returned (.pointer (some ⟨R, 0, none⟩)) ∧ w.heap.size ≤ R ∧ RdAt V w' R l ⟨0, 0, 0⟩ ∧ Chg (fun _ => False) w w'
theorem NewReader_calls (V : Nat → Prop) {w : World} {S : Nat → Prop} {A : Option Addr} {n c : Nat} {l : List UInt8} (h : Cs w S A n (bv l)) (hn : n ≤ 140737488355328) (hV : ∀ k, w.heap.size ≤ k → V k) :
    Calls Try.prog 49 #[.slice A n c] w (NewRd V w l) := by
  have hl : l.length = n := by rw [← bv_length]; exact h.1
  have HL := Lib.hid hl
  have HV := Lib.hid hV
  clear hl hV
  go_enter Try.func49, Try.ntmps49
  go_wp2_with fail
  refine (Clone_calls h hn).mono ?_
  rintro e w' ⟨o', A', cap', rfl, hown, hnew, hchg⟩
  go_wp2_with fail
  go_ret
  have hsz := hchg.size
  refine ⟨w'.heap.size, rfl, hsz, ⟨HV.out _ hsz, Nat.zero_le _, by rw [HL.out]; exact hn, A', cap', ?_, ?_, ?_, hown.capMax⟩, hchg.alloc _⟩
  · rw [HL.out]; exact heap_alloc_new w' _
  · rw [HL.out]
    exact (hown.cs.chg ((Chg.refl (fun _ => False) w').alloc _) (fun _ _ _ h => h)).mono fun k hk hs => ⟨HV.out k (hnew k hs), by have := hown.lt hs; omega⟩
  · rw [HL.out]; exact hown.fits

/-- behind a refusal -/
def Refusal (V : Nat → Prop) (w : World) (R : Nat) (l : List UInt8) (s : RS) (e : Ending) (w' : World) : Prop :=
  e = .returned (.tuple #[]) ∧ RdAt V w' R l s ∧ Chg (fun k => k = R) w w'
def rrefuse (why at_ : Int) (s : RS) : RS := if s.y = 0 then ⟨s.p, why, at_⟩ else s
theorem refuse_calls {V : Nat → Prop} {w : World} {R : Nat} {l : List UInt8} {s : RS} (hd : RdAt V w R l s) (why at_ : Int) :
    Calls Try.prog 61 #[.pointer (some ⟨R, 0, none⟩), .int .i64 why, .int .i64 at_] w (Refusal V w R l (rrefuse why at_ s)) := by
  obtain ⟨hv, h1, h2, A, cap, hh, ho, hg⟩ := hd
  obtain ⟨⟨c0, c1, c2, c3⟩, f0, f1, f2, f3⟩ := four_cells hh
  obtain ⟨p, y, z⟩ := s
  by_cases hy : y = 0
  · have hyb : (y == 0) = true := beq_iff_eq.2 hy
    have e : rrefuse why at_ ⟨p, y, z⟩ = ⟨p, why, at_⟩ := by rw [rrefuse, if_pos hy]
    rw [e]
    clear e hy
    go_enter Try.func61, Try.ntmps61
    go_wp2_with fail
    go_end0
    exact ⟨rfl, ⟨hv, h1, h2, A, cap, four_set3 (four_set2 hh _) _, (ho.chg (Chg.one w ⟨R, 2, none⟩ _) (fun k _ hk => hk.2)).chg (Chg.one _ ⟨R, 3, none⟩ _) (fun k _ hk => hk.2), hg⟩, ((Chg.refl (fun k => k = R) w).setIn rfl _ _).setIn rfl _ _⟩
  · have hyb : (y == 0) = false := beq_eq_false_iff_ne.2 hy
    have e : rrefuse why at_ ⟨p, y, z⟩ = ⟨p, y, z⟩ := by rw [rrefuse, if_neg hy]
    rw [e]
    clear e hy
    go_enter Try.func61, Try.ntmps61
    go_wp2_with fail
    go_end0
    exact ⟨rfl, ⟨hv, h1, h2, A, cap, hh, ho, hg⟩, Chg.refl _ _⟩

/-- what take gives: these bytes, as a part of the reader's -/
def Took (V : Nat → Prop) (w : World) (R : Nat) (l : List UInt8) (x : List UInt8) (s : RS) (e : Ending) (w' : World) : Prop :=
  ∃ A c, e = .returned (.slice A x.length c) ∧ Cs w' (fun k => V k ∧ k ≠ R) A x.length (bv x) ∧ x.length ≤ c ∧ RdAt V w' R l s ∧ Chg (fun k => k = R) w w'
theorem took_of {V : Nat → Prop} {w : World} {R : Nat} {l : List UInt8} {p n cap c' m : Nat} {z : Int} {A A' : Option Addr} (hd : RdAt V w R l ⟨p, 0, z⟩)
    (hh : w.heap[R]? = some (.cells #[.slice A l.length cap, .int .i64 (p : Int), .int .i64 0, .int .i64 z] 87 (0, 0))) (ho : Cs w (fun k => V k ∧ k ≠ R) A l.length (bv l))
    (hs : ¬ l.length - p < n) (hA : A' = if cap = p then A else A.map (·.add p)) (hc : c' = cap - p) (hm : m = p + n - p) (q q2 : Nat) :
    Took V w R l ((l.drop p).take n) ⟨p + n, 0, z⟩ (.returned (.slice A' m c')) (((w.drewN q).setCell ⟨R, 1, none⟩ (.int .i64 ((p : Int) + (n : Int)))).drewN q2) := by
  obtain ⟨hv, h1, h2, A0, cap0, hh0, ho0, hg1, hg2⟩ := hd
  simp only at h1 hh0
  rw [hh0] at hh
  injection hh with hh
  injection hh with hh
  injection hh with hh
  injection hh with hh hh'
  injection hh with e1 e2 e3
  subst e1; subst e3; subst hA; subst hc; subst hm
  have hx : ((l.drop p).take n).length = n := by rw [List.length_take, List.length_drop]; omega
  have hpn : p + n - p = n := by omega
  have hch : Chg (fun k => k = R) w (((w.drewN q).setCell ⟨R, 1, none⟩ (.int .i64 ((p : Int) + (n : Int)))).drewN q2) := ((((Chg.refl (fun k => k = R) w).drewN q).setIn rfl _ _).drewN q2)
  have ho1 := (ho.chg hch (fun k _ hk => hk.2)).drop (k := p) (by omega) hg1
  refine ⟨_, _, by rw [hx, hpn], ?_, by rw [hx]; omega, ⟨hv, by show p + n ≤ l.length; omega, h2, A0, cap0, ?_, ho.chg hch (fun k _ hk => hk.2), hg1, hg2⟩, hch⟩
  · rw [hx, bv_take, bv_drop]
    exact ho1.take (by omega)
  · have := four_set1 hh0 (.int .i64 ((p : Int) + (n : Int)))
    show (((w.drewN q).setCell ⟨R, 1, none⟩ (.int .i64 ((p : Int) + (n : Int)))).drewN q2).heap[R]? = _
    rw [show (((p + n : Nat)) : Int) = (p : Int) + (n : Int) from Int.natCast_add p n]
    exact this
set_option maxRecDepth 100000 in
set_option maxHeartbeats 800000 in
theorem take_calls {V : Nat → Prop} {w : World} {R : Nat} {l : List UInt8} {s : RS} (hd : RdAt V w R l s) (n : Nat) (hn : n ≤ 140737488355328) :
    Calls Try.prog 60 #[.pointer (some ⟨R, 0, none⟩), .int .i64 n] w (Took V w R l (rtake l n s).1 (rtake l n s).2) := by
  have hd' := hd
  obtain ⟨hv, h1, h2, A, cap, hh, ho, hg1, hg2⟩ := hd
  obtain ⟨⟨c0, c1, c2, c3⟩, f0, f1, f2, f3⟩ := four_cells hh
  obtain ⟨p, y, z⟩ := s
  simp only at h1 c1 c2 c3 hh
  by_cases hy : y = 0
  · subst hy
    by_cases hs : l.length - p < n
    · rw [rtake_short rfl hs]
      have hr : ∀ q, Calls Try.prog 61 #[.pointer (some ⟨R, 0, none⟩), .int .i64 10, .int .i64 (l.length : Int)] (w.drewN q) (Refusal V (w.drewN q) R l ⟨p, 10, (l.length : Int)⟩) := fun q =>
        refuse_calls (hd'.keep ((Chg.refl _ w).drewN q)) 10 (l.length : Int)
      have HR := Lib.hid hr
      clear hr
      have hgt : (l.length : Int) - (p : Int) < (n : Int) := by omega
      go_enter Try.func60, Try.ntmps60
      go_wp2_with fail
      go_quiet (fail)
      go_wp2_with fail
      refine (HR.out _).mono ?_
      rintro e w1 ⟨rfl, hd1, hc1⟩
      go_wp2_with fail
      go_ret
      exact ⟨none, 0, rfl, Cs.none_, Nat.le_refl _, hd1, ((Chg.refl _ w).drewN _).trans hc1 (fun _ _ h => h)⟩
    · rw [rtake_ok rfl hs]
      have hgt : ¬ (l.length : Int) - (p : Int) < (n : Int) := by omega
      have hlow : (p : Int) + (n : Int) - (n : Int) = (p : Int) := by omega
      have hp0 : (0 : Int) ≤ (p : Int) := by omega
      have hpn : (p : Int) ≤ (p : Int) + (n : Int) := by omega
      have hpc : (p : Int) + (n : Int) ≤ (cap : Int) := by omega
      by_cases hcp : cap = p
      all_goals
        go_enter Try.func60, Try.ntmps60
        go_wp2_with fail
        go_quiet (fail)
        go_wp2_with fail
        go_quiet (fail)
        go_wp2_with fail
        go_ret
      · exact took_of hd' hh ho hs (by rw [if_pos hcp]) (by omega) rfl _ _
      · exact took_of hd' hh ho hs (by rw [if_neg hcp]) rfl rfl _ _
  · have hyb : (y != 0) = true := by simp [hy]
    rw [rtake_off hy]
    clear hy
    go_enter Try.func60, Try.ntmps60
    go_wp2_with fail
    go_ret
    exact ⟨none, 0, rfl, Cs.none_, Nat.le_refl _, hd', Chg.refl _ _⟩

theorem u64_or_byte (N y : Nat) (hN : N < 72057594037927936) (hy : y < 256) : bits .or .u64 ((N : Int) * 256) (y : Int) = ((y + 256 * N : Nat) : Int) := by
  have e : (N : Int) * 256 = ((N * 256 : Nat) : Int) := by omega
  have ho (a : Nat) (ha : a < 18446744073709551616) : (BitVec.ofInt 64 (a : Int)).toNat = a := by
    rw [BitVec.ofInt_natCast, BitVec.toNat_ofNat]; exact Nat.mod_eq_of_lt (by omega)
  rw [e]
  show IntKind.u64.wrap ((BitVec.ofInt 64 ((N * 256 : Nat) : Int) ||| BitVec.ofInt 64 (y : Int)).toNat : Int) = _
  rw [BitVec.toNat_or, ho _ (by omega), ho _ (by omega), u64_wrap, u64_cast]
  have h2 := Nat.two_pow_add_eq_or_of_lt (i := 8) (b := y) (by omega) N
  rw [Nat.mul_comm N 256, ← h2]
  omega

/-- where get stands at its label -/
def GetAt (w0 : World) (x : List UInt8) (A : Option Addr) (c : Nat) (a : Act) (w : World) : Prop :=
  ∃ (j N : Nat) (x0 x1 x2 x3 x4 x8 x9 x10 x11 x12 x13 x14 x15 x16 x17 x18 x19 x20 x21 x22 x23 x24 x25 : Value),
    a = { tmps := #[x0, x1, x2, x3, x4, .int .u64 N, .slice A x.length c, .int .i64 j, x8, x9, x10, x11, x12, x13, x14, x15, x16, x17, x18, x19, x20, x21, x22, x23, x24, x25], defers := [] } ∧
    j ≤ x.length ∧ Hid (N = num (x.drop j)) ∧ w0 = w

def Got (V : Nat → Prop) (w : World) (R : Nat) (l : List UInt8) (x : List UInt8) (s : RS) (e : Ending) (w' : World) : Prop :=
  e = .returned (.int .u64 (num x : Int)) ∧ RdAt V w' R l s ∧ Chg (fun k => k = R) w w'
set_option maxRecDepth 100000 in
set_option maxHeartbeats 800000 in
theorem get_calls {V : Nat → Prop} {w : World} {R : Nat} {l : List UInt8} {s : RS} (hd : RdAt V w R l s) (n : Nat) (hn : n ≤ 8) :
    Calls Try.prog 57 #[.pointer (some ⟨R, 0, none⟩), .int .i64 n] w (Got V w R l (rtake l n s).1 (rtake l n s).2) := by
  have hx8 := rtake_le l n s
  have ht := take_calls hd n (by omega)
  have HT := Lib.hid ht
  clear ht hd
  generalize (rtake l n s).1 = x at hx8 HT ⊢
  generalize (rtake l n s).2 = s' at HT ⊢
  go_enter Try.func57, Try.ntmps57
  go_wp2_with fail
  refine wp_scope_once 0 (fun a w' => ∃ (A : Option Addr) (c : Nat) (w1 : World), Cs w1 (fun k => V k ∧ k ≠ R) A x.length (bv x) ∧ x.length ≤ c ∧ RdAt V w1 R l s' ∧ Chg (fun k => k = R) w w1 ∧ GetAt w1 x A c a w') (fun a' _ => (intOf (a'.tmps.getD 7 undef)).toNat) rfl ?_ ?_
  · rintro a w2 ⟨A, c, w1, hcs, hxc, hd1, hc1, j, N, x0, x1, x2, x3, x4, x8, x9, x10, x11, x12, x13, x14, x15, x16, x17, x18, x19, x20, x21, x22, x23, x24, x25, rfl, hj, HN, rfl⟩
    rcases Nat.eq_zero_or_pos j with rfl | hj0
    · go_wp2_with fail
      simp only [Exit.jump]
      go_ret
      refine ⟨?_, hd1, hc1⟩
      rw [HN.out]
      rfl
    · obtain ⟨i, rfl⟩ : ∃ i, j = i + 1 := ⟨j - 1, by omega⟩
      obtain ⟨b, off, rfl, hb, hcell⟩ := hcs.2 (by omega)
      have hil : i < x.length := by omega
      have hci := hcell i _ (bv_get hil)
      have hdr := num_drop hil
      have hN7 : N < 72057594037927936 := by rw [HN.out]; exact num_lt7 (by rw [List.length_drop]; omega)
      have hb256 : (x[i].toNat) < 256 := x[i].toNat_lt
      generalize x[i].toNat = y at hci hdr hb256
      have HC := Lib.hid hcell
      have HD := Lib.hid hdr
      clear hcell hdr
      have hi1 : ((i + 1 : Nat) : Int) - 1 = (i : Int) := by omega
      have hil' : (i : Int) < (x.length : Int) := by omega
      have hor := u64_or_byte N y hN7 hb256
      go_wp2_with fail
      go_step3
      refine ⟨rfl, ⟨some ⟨b, off, none⟩, c, w1, hcs, hxc, hd1, hc1, i, y + 256 * N, _, _, _, _, _, _, _, _, _, _, _, _, _, _, _, _, _, _, _, _, _, _, _, rfl, by omega, Lib.hid (by rw [HD.out, HN.out]), rfl⟩, ?_⟩
      simp [intOf]
  · intro H
    go_wp2_with fail
    refine HT.out.mono ?_
    rintro e w1 ⟨A, c, rfl, hcs, hxc, hd1, hc1⟩
    go_wp2_with fail
    go_step3
    rename_i hK
    exact hK _ _ (H.out _ _ ⟨A, c, w1, hcs, hxc, hd1, hc1, x.length, 0, _, _, _, _, _, _, _, _, _, _, _, _, _, _, _, _, _, _, _, _, _, _, _, rfl, Nat.le_refl _, Lib.hid (by simp [num]), rfl⟩)

/-- a call that gives one value and leaves the reader at s -/
def Gave (V : Nat → Prop) (w : World) (R : Nat) (l : List UInt8) (v : Value) (s : RS) (e : Ending) (w' : World) : Prop :=
  e = .returned v ∧ RdAt V w' R l s ∧ Chg (fun k => k = R) w w'

theorem RByte_calls {V : Nat → Prop} {w : World} {R : Nat} {l : List UInt8} {s : RS} (hd : RdAt V w R l s) :
    Calls Try.prog 52 #[.pointer (some ⟨R, 0, none⟩)] w (Gave V w R l (.int .i64 (num (rtake l 1 s).1 : Int)) (rtake l 1 s).2) := by
  have h : Calls Try.prog 57 #[.pointer (some ⟨R, 0, none⟩), .int .i64 1] w (Got V w R l (rtake l 1 s).1 (rtake l 1 s).2) := get_calls hd 1 (by decide)
  have hb := num_lt2 (l := (rtake l 1 s).1) (by have := rtake_le l 1 s; omega)
  have H := Lib.hid h
  clear h hd
  generalize (rtake l 1 s).1 = x at hb H ⊢
  generalize (rtake l 1 s).2 = s' at H ⊢
  go_enter Try.func52, Try.ntmps52
  go_wp2_with fail
  refine H.out.mono ?_
  rintro e w1 ⟨rfl, hd1, hc1⟩
  go_wp2_with fail
  go_ret
  exact ⟨rfl, hd1, hc1⟩

/-- an unsigned number of 64 bits as a signed one -/
def s64 (n : Nat) : Int := if n < 9223372036854775808 then (n : Int) else (n : Int) - 18446744073709551616
theorem s64_wrap (n : Nat) (hn : n < 18446744073709551616) : IntKind.i64.wrap (n : Int) = s64 n := by
  unfold s64
  simp [IntKind.wrap, IntKind.signed, IntKind.bits]
  split <;> omega
theorem s64_u64 (n : Int) (h : -9223372036854775808 ≤ n ∧ n ≤ 9223372036854775807) : s64 (u64 n) = n := by
  unfold s64 u64
  split <;> omega

theorem RLong_calls {V : Nat → Prop} {w : World} {R : Nat} {l : List UInt8} {s : RS} (hd : RdAt V w R l s) :
    Calls Try.prog 50 #[.pointer (some ⟨R, 0, none⟩)] w (Gave V w R l (.int .i64 (s64 (num (rtake l 8 s).1))) (rtake l 8 s).2) := by
  have h : Calls Try.prog 57 #[.pointer (some ⟨R, 0, none⟩), .int .i64 8] w (Got V w R l (rtake l 8 s).1 (rtake l 8 s).2) := get_calls hd 8 (by decide)
  have hb := s64_wrap _ (num_lt8 (l := (rtake l 8 s).1) (by have := rtake_le l 8 s; omega))
  have H := Lib.hid h
  clear h hd
  generalize (rtake l 8 s).1 = x at hb H ⊢
  generalize (rtake l 8 s).2 = s' at H ⊢
  go_enter Try.func50, Try.ntmps50
  go_wp2_with fail
  refine H.out.mono ?_
  rintro e w1 ⟨rfl, hd1, hc1⟩
  go_wp2_with fail
  go_ret
  exact ⟨rfl, hd1, hc1⟩

theorem Left_calls {V : Nat → Prop} {w : World} {R : Nat} {l : List UInt8} {s : RS} (hd : RdAt V w R l s) :
    Calls Try.prog 54 #[.pointer (some ⟨R, 0, none⟩)] w fun e w' => e = .returned (.int .i64 (rleft l s)) ∧ ∃ q, w' = w.drewN q := by
  obtain ⟨hv, h1, h2, A, cap, hh, ho, hg1, hg2⟩ := hd
  obtain ⟨⟨c0, c1, c2, c3⟩, f0, f1, f2, f3⟩ := four_cells hh
  obtain ⟨p, y, z⟩ := s
  simp only at h1 c1 c2 c3 hh
  by_cases hy : y = 0
  · subst hy
    have e : rleft l ⟨p, 0, z⟩ = (l.length : Int) - (p : Int) := by rw [rleft, if_pos rfl]; show ((l.length - p : Nat) : Int) = _; omega
    rw [e]
    clear e
    go_enter Try.func54, Try.ntmps54
    go_wp2_with fail
    go_quiet (fail)
    go_wp2_with fail
    go_ret
    exact ⟨rfl, _, rfl⟩
  · have hyb : (y != 0) = true := by simp [hy]
    have e : rleft l ⟨p, y, z⟩ = 0 := by rw [rleft, if_neg hy]
    rw [e]
    clear hy e
    go_enter Try.func54, Try.ntmps54
    go_wp2_with fail
    go_ret
    exact ⟨rfl, 0, rfl⟩

theorem str_nil : str [] = ⟨#[]⟩ := rfl
theorem Refused_calls {V : Nat → Prop} {w : World} {R : Nat} {l : List UInt8} {s : RS} (hd : RdAt V w R l s) :
    Calls Try.prog 53 #[.pointer (some ⟨R, 0, none⟩)] w fun e w' => e = .returned (.bool (s.y != 0)) ∧ w = w' := by
  obtain ⟨hv, h1, h2, A, cap, hh, ho, hg1, hg2⟩ := hd
  obtain ⟨⟨c0, c1, c2, c3⟩, f0, f1, f2, f3⟩ := four_cells hh
  go_enter Try.func53, Try.ntmps53
  go_wp2_with fail
  go_ret
  exact ⟨rfl, rfl⟩
end Go.Proofs.Ytlnjadnddldjeaa
