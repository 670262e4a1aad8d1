/-
  Contracts of package wire's Writer: what was written, and what each of its calls adds.
-/
import Derived.Test.YtlnjadnddldjeaaWireMath
import Derived.Test.YtlnjadnddldjeaaBytes4
import Derived.ScopeJumps
import Derived.IntWalk
namespace Go.Proofs.Ytlnjadnddldjeaa
open Go.RowKit
set_option linter.unusedVariables false
set_option linter.unusedSimpArgs false

/-- In w a Writer lies at D with these bytes; it and its array lie in V. -/
def WrAt (V : Nat → Prop) (w : World) (D : Nat) (bs : List UInt8) : Prop :=
  V D ∧ ∃ own A cap, w.heap[D]? = some (.cells #[.slice A bs.length cap] 83 (0, 0)) ∧ Own w 5 own A bs.length cap (bv bs) ∧ ∀ g, own = some g → V g

theorem one_cell {w : World} {D : Nat} {x : Value} {t : TypeId} (h : w.heap[D]? = some (.cells #[x] t (0, 0))) : w.cell? ⟨D, 0, none⟩ = some x ∧ w.frozen? ⟨D, 0, none⟩ = false := by
  simp [World.cell?, World.frozen?, h]
theorem one_set0 {w : World} {D : Nat} {x : Value} {t : TypeId} (h : w.heap[D]? = some (.cells #[x] t (0, 0))) (u : Value) : (w.setCell ⟨D, 0, none⟩ u).heap[D]? = some (.cells #[u] t (0, 0)) := by
  rw [heap_setCell_same w D 0 _ t u h]; rfl

theorem Own.setOther' {w : World} {e : TypeId} {own : Option Nat} {A : Option Addr} {n cap : Nat} {xs : List Value} (h : Own w e own A n cap xs) {p : Addr} (hp : own ≠ some p.block) (u : Value) :
    Own (w.setCell p u) e own A n cap xs :=
  h.chg (T := fun k => k = p.block) (Chg.one w p u) fun k hk e => hp (by rw [hk, e])

theorem Own.fresh (w : World) (l : List Value) (e : TypeId) (hl : l.length ≤ 9223372036854775807) : Own (w.alloc (.cells l.toArray e)) e (some w.heap.size) (some ⟨w.heap.size, 0, none⟩) l.length l.length l :=
  ⟨rfl, Nat.le_refl _, .inr ⟨w.heap.size, l.toArray, rfl, rfl, heap_alloc_new w _, by simp, by simpa [maxLen] using hl, by simp⟩⟩
theorem low_byte (m : Nat) : Value.int .u8 ((m : Int) % 256) = .int .u8 ((UInt8.ofNat (m % 256)).toNat : Int) := by
  rw [byte_nat]; congr 1

theorem stringApp : AppT Try.prog 31 9 5 1 := by
  obtain ⟨i, hi, hz, hs, hb⟩ := info_parts (P := Try.prog) (e := 5) (z := .int .u8 0) (size := 1) (bytes := 1) (by kernel_rfl)
  exact ⟨Try.underlying31, .inr Try.underlying9, i, _, hi, hz, hs, hb, rfl⟩

namespace WrAt
variable {V V' T : Nat → Prop} {w w' : World} {D : Nat} {bs : List UInt8}
theorem chg (h : WrAt V w D bs) (hc : Chg T w w') (hd : ∀ k, k < w.heap.size → V k → ¬ T k) : WrAt V w' D bs := by
  obtain ⟨hv, own, A, cap, hh, ho, hg⟩ := h
  exact ⟨hv, own, A, cap, hc.heap hh (hd D (lt_of_block hh) hv), ho.chg hc fun k hk => hd k (ho.lt hk) (hg k hk), hg⟩
theorem keep (h : WrAt V w D bs) (hc : Chg (fun _ => False) w w') : WrAt V w' D bs := h.chg hc (fun _ _ _ h => h)
theorem mono (h : WrAt V w D bs) (hv' : ∀ k, k < w.heap.size → V k → V' k) : WrAt V' w D bs := by
  obtain ⟨hv, own, A, cap, hh, ho, hg⟩ := h
  exact ⟨hv' D (lt_of_block hh) hv, own, A, cap, hh, ho, fun g e => hv' g (ho.lt e) (hg g e)⟩
theorem lt (h : WrAt V w D bs) : D < w.heap.size := by
  obtain ⟨hv, own, A, cap, hh, ho, hg⟩ := h
  exact lt_of_block hh
theorem alloc (h : WrAt V w D bs) (o : Obj) : WrAt V (w.alloc o) D bs := h.keep ((Chg.refl _ w).alloc o)
end WrAt

/-- behind a write -/
def Wrote (V : Nat → Prop) (w : World) (D : Nat) (bs : List UInt8) (e : Ending) (w' : World) : Prop := e = .returned (.tuple #[]) ∧ WrAt V w' D bs ∧ Chg V w w'

theorem NewWriter_calls (V : Nat → Prop) (w : World) (hV : V w.heap.size) :
    Calls Try.prog 44 #[] w fun e w' => e = .returned (.pointer (some ⟨w.heap.size, 0, none⟩)) ∧ WrAt V w' w.heap.size [] ∧ Chg (fun _ => False) w w' := by
  go_enter Try.func44, Try.ntmps44
  go_wp2_with fail
  go_ret
  exact ⟨rfl, ⟨hV, none, none, 0, heap_alloc_new w _, Own.nil_ _ _ _, (fun g h => by cases h)⟩, (Chg.refl _ w).alloc _⟩

/-- A scope in which the run jumps back to one label: the pass behind the label is walked once; the first run comes to the label under J. -/
theorem wp_scope_once {P : Program} {a : Act} {w : World} {Q : Exit → Act → World → Prop} {c rest : Code} (l : Nat) (J : Act → World → Prop) (μ : Act → World → Nat) (hf : findLabel c l = some (Code.skip.seq rest))
    (pass : ∀ a w, J a w → rest.wp P (Exit.jump l (fun a' w' => J a' w' ∧ μ a' w' < μ a w) Q) a w)
    (first : Hid (∀ a w, J a w → rest.wp P (Exit.jump l J Q) a w) → c.wp P (Exit.jump l J Q) a w) : (Code.scope c).wp P Q a w :=
  wp_scope_jumps l J μ hf (first (Lib.hid fun a w h => Code.wp_mono (fun e a' w' hq => by
    cases e <;> first | exact hq | exact ⟨hq.1, hq.2.1⟩) (pass a w h))) fun a w h => wp_seq (wp_skip (pass a w h))

/-- where put stands at its label -/
def PutAt (V : Nat → Prop) (w0 : World) (D : Nat) (goal : List UInt8) (N : Nat) (a : Act) (w : World) : Prop :=
  ∃ (j m k : Nat) (bs : List UInt8) (x3 x4 x5 x7 x8 x9 x10 x11 x12 x13 x14 x15 x16 x17 x18 x19 x20 x21 x22 x23 x24 : Value),
    a = { tmps := #[.pointer (some ⟨D, 0, none⟩), .int .u64 m, .int .i64 k, x3, x4, x5, .int .i64 j, x7, x8, x9, x10, x11, x12, x13, x14, x15, x16, x17, x18, x19, x20, x21, x22, x23, x24], defers := [] } ∧
    j ≤ 8 ∧ m ≤ 18446744073709551615 ∧ Hid (goal = bs ++ le j m) ∧ bs.length + j ≤ N ∧ WrAt V w D bs ∧ Chg V w0 w

set_option maxRecDepth 100000 in
set_option maxHeartbeats 800000 in
theorem put_calls {V : Nat → Prop} {w : World} {D : Nat} {bs : List UInt8} (hd : WrAt V w D bs) (hV : ∀ k, w.heap.size ≤ k → V k) (m k : Nat) (hm : m ≤ 18446744073709551615) (hk : k ≤ 8) (hroom : bs.length + k ≤ 140737488355328) :
    Calls Try.prog 55 #[.pointer (some ⟨D, 0, none⟩), .int .u64 m, .int .i64 k] w (Wrote V w D (bs ++ le k m)) := by
  have HV := Lib.hid hV
  clear hV
  go_enter Try.func55, Try.ntmps55
  go_wp2_with fail
  refine wp_scope_once 0 (PutAt V w D (bs ++ le k m) 140737488355328) (fun a' _ => (intOf (a'.tmps.getD 6 undef)).toNat) rfl ?_ ?_
  · rintro a w1 ⟨j, m1, k1, bs1, x3, x4, x5, x7, x8, x9, x10, x11, x12, x13, x14, x15, x16, x17, x18, x19, x20, x21, x22, x23, x24, rfl, hj, hm1, HG, hN, hd1, hc1⟩
    obtain ⟨hv, own, A, cap, hh, ho, hg⟩ := hd1
    obtain ⟨c0, f0⟩ := one_cell hh
    have hne : own ≠ some D := ho.ne_ hh (by decide)
    rcases Nat.eq_zero_or_pos j with rfl | hj0
    · go_wp2_with fail
      simp only [Exit.jump]
      go_end0
      refine ⟨rfl, ?_, hc1⟩
      rw [HG.out]
      simp only [le, List.append_nil]
      exact ⟨hv, own, A, cap, hh, ho, hg⟩
    · have hjb : ((j : Int) == 0) = false := beq_eq_false_iff_ne.2 (by omega)
      have hjn : (j : Int) - 1 = ((j - 1 : Nat) : Int) := by omega
      have hsrc := Src.slice (P := Try.prog) (c := 1) (Own.fresh w1 [.int .u8 ((m1 : Int) % 256)] 5 (by simp)).cs
      have hal := ho.chg ((Chg.refl (fun _ => False) w1).alloc (.cells #[.int .u8 ((m1 : Int) % 256)] 5)) (fun _ _ h => h)
      go_wp2_with (at_builtin; refine wpList_append rfl _ _ 31 31 rfl 5 1 bytesApp own A bs1.length cap (bv bs1) [.int .u8 ((m1 : Int) % 256)] _ rfl rfl hal hsrc (fun u hu => by rw [List.mem_singleton.1 hu]; rfl) (bs1.length + 1) rfl (by omega) (by omega) ?_)
      intro own' A' cap' w' hown hor hchg
      have hch : Chg (fun k => own = some k) w1 w' := ((Chg.refl _ w1).alloc _).trans hchg (fun _ _ h => h)
      have hh' := hch.heap hh (fun h => hne h)
      obtain ⟨c0', f0'⟩ := one_cell hh'
      clear c0 f0
      go_wp2_with fail
      go_step3
      have hle : le j m1 = UInt8.ofNat (m1 % 256) :: le (j - 1) (m1 / 256) := by
        obtain ⟨i, rfl⟩ : ∃ i, j = i + 1 := ⟨j - 1, by omega⟩
        rfl
      have hb : bv bs1 ++ [Value.int .u8 ((m1 : Int) % 256)] = bv (bs1 ++ [UInt8.ofNat (m1 % 256)]) := by rw [bv_append, low_byte]; rfl
      have hl1 : (bs1 ++ [UInt8.ofNat (m1 % 256)]).length = bs1.length + 1 := by simp
      have hsz := hch.size
      have hne' : own' ≠ some D := hown.ne_ hh' (by decide)
      have hwin : Chg V w w' := hc1.trans hch (fun i _ h => hg i h)
      refine ⟨rfl, ⟨j - 1, m1 / 256, k1, bs1 ++ [UInt8.ofNat (m1 % 256)], _, _, _, _, _, _, _, _, _, _, _, _, _, _, _, _, _, _, _, _, _, rfl, by omega, by omega, Lib.hid (by rw [HG.out, hle]; simp), by rw [hl1]; omega, ⟨hv, own', A', cap', ?_, ?_, ?_⟩, ?_⟩, ?_⟩
      · rw [hl1]; exact one_set0 hh' _
      · rw [hl1, ← hb]; exact hown.setOther' hne' _
      · intro g e
        rcases hor with h0 | h0
        · exact hg g (by rw [← h0, e])
        · have hg0 : g = w1.heap.size + 1 := by rw [e] at h0; injection h0
          have h3 := hc1.size
          exact HV.out g (by omega)
      · exact hwin.setCell (.inl hv) _
      · simp [intOf]; omega
  · intro H
    go_wp2_with fail
    go_step3
    rename_i hK
    exact hK _ _ (H.out _ _ ⟨k, m, k, bs, _, _, _, _, _, _, _, _, _, _, _, _, _, _, _, _, _, _, _, _, _, rfl, hk, hm, Lib.hid rfl, hroom, hd, Chg.refl _ _⟩)

/-- a number as an unsigned one of 64 bits -/
def u64 (n : Int) : Nat := (n % 18446744073709551616).toNat
theorem u64_cast (n : Int) : ((u64 n : Nat) : Int) = n % 18446744073709551616 := by unfold u64; omega
theorem u64_le (n : Int) : u64 n ≤ 18446744073709551615 := by unfold u64; omega

theorem u64_wrap (n : Int) : IntKind.u64.wrap n = ((u64 n : Nat) : Int) := by
  rw [u64_cast]
  simp [IntKind.wrap, IntKind.signed, IntKind.bits]

set_option maxRecDepth 100000 in
theorem WByte_calls {V : Nat → Prop} {w : World} {D : Nat} {bs : List UInt8} (hd : WrAt V w D bs) (hV : ∀ k, w.heap.size ≤ k → V k) (n : Int) (hroom : bs.length + 1 ≤ 140737488355328) :
    Calls Try.prog 45 #[.pointer (some ⟨D, 0, none⟩), .int .i64 n] w (Wrote V w D (bs ++ le 1 (u64 n))) := by
  have h : Calls Try.prog 55 #[.pointer (some ⟨D, 0, none⟩), .int .u64 (IntKind.u64.wrap n), .int .i64 1] w (Wrote V w D (bs ++ le 1 (u64 n))) := by
    rw [u64_wrap]
    exact put_calls hd hV (u64 n) 1 (u64_le n) (by decide) hroom
  have H := Lib.hid h
  clear h hV
  go_enter Try.func45, Try.ntmps45
  go_wp2_with fail
  refine H.out.mono ?_
  rintro e w1 ⟨rfl, hd1, hc1⟩
  go_wp2_with fail
  go_end0
  exact ⟨rfl, hd1, hc1⟩

set_option maxRecDepth 100000 in
theorem WLong_calls {V : Nat → Prop} {w : World} {D : Nat} {bs : List UInt8} (hd : WrAt V w D bs) (hV : ∀ k, w.heap.size ≤ k → V k) (n : Int) (hroom : bs.length + 8 ≤ 140737488355328) :
    Calls Try.prog 46 #[.pointer (some ⟨D, 0, none⟩), .int .i64 n] w (Wrote V w D (bs ++ le 8 (u64 n))) := by
  have h : Calls Try.prog 55 #[.pointer (some ⟨D, 0, none⟩), .int .u64 (IntKind.u64.wrap n), .int .i64 8] w (Wrote V w D (bs ++ le 8 (u64 n))) := by
    rw [u64_wrap]
    exact put_calls hd hV (u64 n) 8 (u64_le n) (by decide) hroom
  have H := Lib.hid h
  clear h hV
  go_enter Try.func46, Try.ntmps46
  go_wp2_with fail
  refine H.out.mono ?_
  rintro e w1 ⟨rfl, hd1, hc1⟩
  go_wp2_with fail
  go_end0
  exact ⟨rfl, hd1, hc1⟩

theorem Done_calls {V : Nat → Prop} {w : World} {D : Nat} {bs : List UInt8} (hd : WrAt V w D bs) (hm : bs.length ≤ 140737488355328) :
    Calls Try.prog 48 #[.pointer (some ⟨D, 0, none⟩)] w (Cloned w bs.length bs) := by
  obtain ⟨hv, own, A, cap, hh, ho, hg⟩ := hd
  obtain ⟨c0, f0⟩ := one_cell hh
  go_enter Try.func48, Try.ntmps48
  go_wp2_with fail
  refine (Clone_calls ho.cs hm).mono ?_
  rintro e w' ⟨o', A', cap', rfl, hown, hnew, hchg⟩
  go_wp2_with fail
  go_ret
  exact ⟨o', A', cap', rfl, hown, hnew, hchg⟩
end Go.Proofs.Ytlnjadnddldjeaa
