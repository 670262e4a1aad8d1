/-
  Chapter 20's own runs (the helper 'known' of the statements of layer 20): it answers true, and touches nothing that was there.
-/
import Derived.Test.YtnehkheojgmocaaDisk
namespace Go.Proofs.Ytnehkheojgmocaa
open Go.RowKit
set_option linter.unusedVariables false

theorem Cs.new (w : World) (l : List UInt8) (t : TypeId) (fr : Nat × Nat) : Cs (w.alloc (.cells (bv l).toArray t fr)) (fun k => k = w.heap.size) (some ⟨w.heap.size, 0, none⟩) l.length (bv l) := by
  refine ⟨bv_length l, fun _ => ⟨w.heap.size, 0, rfl, rfl, fun j u hu => ?_⟩⟩
  rw [Nat.zero_add, cell_of_row _ _ _ _ _ _ (heap_alloc_new w _)]
  simpa using hu

/-- a law's or a helper's answer: true, nothing that was there has changed -/
def Holds (w : World) (e : Ending) (w' : World) : Prop := e = .returned (.bool true) ∧ Chg (fun _ => False) w w'

/-- Since w0 nothing that was there has changed, and a disk made since then lies at D. -/
def DiskIn (w0 w : World) (D : Nat) (bs : List UInt8) (safe : Nat) : Prop :=
  ∃ own, DiskAt w D own bs safe ∧ w0.heap.size ≤ D ∧ (∀ g, own = some g → w0.heap.size ≤ g) ∧ Chg (fun _ => False) w0 w
namespace DiskIn
variable {w0 w w' : World} {D : Nat} {bs x : List UInt8} {safe : Nat}
theorem step (h : DiskIn w0 w D bs safe) (hc : Chg (fun _ => False) w w') : DiskIn w0 w' D bs safe := by
  obtain ⟨own, hd, h1, h2, h3⟩ := h
  exact ⟨own, hd.chg hc (fun h => h) (fun _ _ h => h), h1, h2, h3.trans hc fun _ _ h => h⟩
theorem alloc (h : DiskIn w0 w D bs safe) (o : Obj) : DiskIn w0 (w.alloc o) D bs safe := h.step ((Chg.refl _ w).alloc o)
theorem drewN (h : DiskIn w0 w D bs safe) (n : Nat) : DiskIn w0 (w.drewN n) D bs safe := h.step ((Chg.refl _ w).drewN n)
theorem kept (h : DiskIn w0 w D bs safe) : Chg (fun _ => False) w0 w := h.choose_spec.2.2.2
theorem le (h : DiskIn w0 w D bs safe) : safe ≤ bs.length ∧ bs.length ≤ 4194304 := ⟨h.choose_spec.1.1, h.choose_spec.1.2.1⟩
theorem base (h : DiskIn w0 w D bs safe) : w0.heap.size ≤ w.heap.size := h.kept.size
end DiskIn
section
variable {w0 w : World} {D : Nat} {bs x : List UInt8} {safe : Nat}
theorem New_in (w : World) : Calls Try.prog 13 #[] w fun e w' => e = .returned (.pointer (some ⟨w.heap.size, 0, none⟩)) ∧ DiskIn w w' w.heap.size [] 0 :=
  (New_calls w).mono fun e w' ⟨he, hd, hc⟩ => ⟨he, none, hd, Nat.le_refl _, (fun g hg => by simp at hg), hc⟩
theorem Append_in {S : Nat → Prop} {X : Option Addr} {n c : Nat} (h : DiskIn w0 w D bs safe) (hx : Cs w S X n (bv x)) (hroom : bs.length + n ≤ 4194304) :
    Calls Try.prog 14 #[.pointer (some ⟨D, 0, none⟩), .slice X n c] w fun e w' => e = .returned (.int .i64 0) ∧ DiskIn w0 w' D (bs ++ x) safe := by
  obtain ⟨own, hd, h1, h2, h3⟩ := h
  refine (Append_ok hd hx hroom).mono ?_
  rintro e w' ⟨own', rfl, hd', hor, hc⟩
  refine ⟨rfl, own', hd', h1, fun g hg => ?_, h3.trans hc fun i hi ht => ?_⟩
  · rcases hor with h0 | h0
    · exact h2 g (h0 ▸ hg)
    · have := h0 g hg; have := h3.size; omega
  · rcases ht with ht | ht
    · omega
    · have := h2 i ht; omega
theorem Append_over {X : Option Addr} {n c : Nat} (h : DiskIn w0 w D bs safe) (hroom : 4194304 < bs.length + n) :
    Calls Try.prog 14 #[.pointer (some ⟨D, 0, none⟩), .slice X n c] w fun e w' => e = .returned (.int .i64 13) ∧ w' = w := by
  obtain ⟨own, hd, _⟩ := h
  exact Append_full hd hroom
theorem Sync_in (h : DiskIn w0 w D bs safe) :
    Calls Try.prog 15 #[.pointer (some ⟨D, 0, none⟩)] w fun e w' => e = .returned (.tuple #[]) ∧ DiskIn w0 w' D bs bs.length := by
  obtain ⟨own, hd, h1, h2, h3⟩ := h
  refine (Sync_calls hd).mono ?_
  rintro e w' ⟨rfl, hd', hc⟩
  exact ⟨rfl, own, hd', h1, h2, h3.trans hc fun i hi ht => by have h4 : i = D := ht; omega⟩
theorem Crash_in (keep : Int) (h : DiskIn w0 w D bs safe) :
    Calls Try.prog 17 #[.pointer (some ⟨D, 0, none⟩), .int .i64 keep] w fun e w' => e = .returned (.tuple #[]) ∧ DiskIn w0 w' D (bs.take (kept bs.length safe keep)) (kept bs.length safe keep) := by
  obtain ⟨own, hd, h1, h2, h3⟩ := h
  refine (Crash_calls keep hd).mono ?_
  rintro e w' ⟨rfl, hd', hc⟩
  exact ⟨rfl, own, hd', h1, h2, h3.trans hc fun i hi ht => by have h4 : i = D := ht; omega⟩
theorem Swap_in {S : Nat → Prop} {X : Option Addr} {n c : Nat} (h : DiskIn w0 w D bs safe) (hx : Cs w S X n (bv x)) (hroom : n ≤ 4194304) :
    Calls Try.prog 26 #[.pointer (some ⟨D, 0, none⟩), .slice X n c] w fun e w' => e = .returned (.int .i64 0) ∧ DiskIn w0 w' D x x.length := by
  obtain ⟨own, hd, h1, h2, h3⟩ := h
  refine (Swap_ok hd hx hroom).mono ?_
  rintro e w' ⟨own', rfl, hd', hn, hc⟩
  exact ⟨rfl, own', hd', h1, fun g hg => by have := hn g hg; have := h3.size; omega, h3.trans hc fun i hi ht => by have h4 : i = D := ht; omega⟩
theorem Bytes_in (h : DiskIn w0 w D bs safe) :
    Calls Try.prog 18 #[.pointer (some ⟨D, 0, none⟩)] w fun e w' => ∃ own A cap, e = .returned (.slice A bs.length cap) ∧ Cs w' (fun k => own = some k) A bs.length (bv bs) ∧ DiskIn w0 w' D bs safe := by
  obtain ⟨own, hd, h1, h2, h3⟩ := h
  refine (Bytes_calls hd).mono ?_
  rintro e w' ⟨o', A, cap, rfl, hown, hn, hc⟩
  exact ⟨o', A, cap, rfl, hown.cs, own, hd.chg hc (fun h => h) (fun _ _ h => h), h1, h2, h3.trans hc fun _ _ h => h⟩
theorem Safe_in (h : DiskIn w0 w D bs safe) :
    Calls Try.prog 19 #[.pointer (some ⟨D, 0, none⟩)] w fun e w' => e = .returned (.int .i64 (safe : Int)) ∧ w = w' := by
  obtain ⟨own, hd, _⟩ := h
  exact (Safe_calls hd).mono fun e w' ⟨he, hw⟩ => ⟨he, hw.symm⟩
end

set_option maxHeartbeats 1000000 in
theorem known20 (w : World) : Calls Try.prog 20 #[] w (Holds w) := by
  have kc := fun (w : World) (C : Array Value) (n c : Nat) => Lib.run_convert_bytes_const (P := Try.prog) w 26 5 C n c Try.underlying26 Try.underlying5
  go_enter Try.func20, Try.ntmps20
  go_wp2_with fail
  refine (New_in _).mono ?_
  rintro e w1 ⟨rfl, hd1⟩
  generalize w.heap.size = D at hd1 ⊢
  go_wp2_with fail
  refine (Append_in (hd1.alloc _) (Cs.new w1 [97, 98] _ (2, 3)) (by decide)).mono ?_
  rintro e w2 ⟨rfl, hd2⟩
  go_wp2_with fail
  refine (Sync_in hd2).mono ?_
  rintro e w3 ⟨rfl, hd3⟩
  go_wp2_with fail
  refine (Append_in (hd3.alloc _) (Cs.new w3 [99, 100] _ (2, 3)) (by decide)).mono ?_
  rintro e w4 ⟨rfl, hd4⟩
  go_wp2_with fail
  refine (Crash_in 1 hd4).mono ?_
  rintro e w5 ⟨rfl, hd5⟩
  have hd6 : DiskIn w w5 D [97, 98, 99] 3 := by
    have := hd5
    rw [show ([] ++ [97, 98] ++ [99, 100] : List UInt8).take (kept ([] ++ [97, 98] ++ [99, 100] : List UInt8).length ([] ++ [97, 98] : List UInt8).length 1) = [97, 98, 99] by decide,
      show kept ([] ++ [97, 98] ++ [99, 100] : List UInt8).length ([] ++ [97, 98] : List UInt8).length 1 = 3 by decide] at this
    exact this
  go_wp2_with fail
  refine (Bytes_in hd6).mono ?_
  rintro e w7 ⟨own, A, cap, rfl, hcs, hd7⟩
  have hst : (convert 26 9 (.slice A 3 cap)).run Try.prog w7 = .ok (.string (str [97, 98, 99])) w7 :=
    run_string (P := Try.prog) Try.underlying26 Try.underlying5 Try.underlying9 hcs
  have hss : (str [97, 98, 99]).toList = [97, 98, 99] := str_toList _
  go_wp2_with fail
  refine (Safe_in hd7).mono ?_
  rintro e w8 ⟨rfl, rfl⟩
  go_wp2_with fail
  go_ret
  exact ⟨rfl, hd7.kept⟩
end Go.Proofs.Ytnehkheojgmocaa
