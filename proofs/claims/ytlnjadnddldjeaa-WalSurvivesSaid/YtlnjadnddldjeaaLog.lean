/-
  A log of package wal in memory; contracts of its First, Next, Note, Snap, Get, Sync.
-/
import Derived.Test.YtlnjadnddldjeaaScan
import Derived.Test.YtlnjadnddldjeaaWritten21
import Derived.Test.YtlnjadnddldjeaaDisk4
namespace Go.Proofs.Ytlnjadnddldjeaa
open Go.RowKit
set_option linter.unusedVariables false
set_option linter.unusedSimpArgs false

def sv (rs : List ByteArray) : List Value := rs.map fun s => .string s
theorem sv_length (rs : List ByteArray) : (sv rs).length = rs.length := by simp [sv]
/-- In w the log with first number f, records rs, snapshot and note lies at L, over the disk at D; own: the block of its records. -/
def LogAt (w : World) (L D : Nat) (own : Option Nat) (f : Nat) (rs : List ByteArray) (snap note : ByteArray) : Prop :=
  f ≤ 1073741824 ∧ rs.length ≤ 1000000 ∧ ∃ A cap, w.heap[L]? = some (.cells #[.pointer (some ⟨D, 0, none⟩), .int .i64 (f : Int), .slice A rs.length cap, .string snap, .string note] 62 (0, 0)) ∧ Own w 9 own A rs.length cap (sv rs)
theorem LogAt.chg {T : Nat → Prop} {w w' : World} {L D f : Nat} {own : Option Nat} {rs : List ByteArray} {snap note : ByteArray} (h : LogAt w L D own f rs snap note) (hc : Chg T w w') (hL : ¬ T L) (ho : ∀ k, own = some k → ¬ T k) : LogAt w' L D own f rs snap note := by
  obtain ⟨h1, h2, A, cap, hh, hO⟩ := h
  exact ⟨h1, h2, A, cap, hc.heap hh hL, hO.chg hc ho⟩
theorem LogAt.keep {w w' : World} {L D f : Nat} {own : Option Nat} {rs : List ByteArray} {snap note : ByteArray} (h : LogAt w L D own f rs snap note) (hc : Chg (fun _ => False) w w') : LogAt w' L D own f rs snap note := h.chg hc (fun h => h) (fun _ _ h => h)
theorem LogAt.lt {w : World} {L D f : Nat} {own : Option Nat} {rs : List ByteArray} {snap note : ByteArray} (h : LogAt w L D own f rs snap note) : L < w.heap.size := by
  obtain ⟨h1, h2, A, cap, hh, hO⟩ := h
  exact (Array.getElem?_eq_some_iff.1 hh).1
theorem five_cells {w : World} {D : Nat} {x y z v u : Value} {t : TypeId} (h : w.heap[D]? = some (.cells #[x, y, z, v, u] t (0, 0))) :
    (w.cell? ⟨D, 0, none⟩ = some x ∧ w.cell? ⟨D, 1, none⟩ = some y ∧ w.cell? ⟨D, 2, none⟩ = some z ∧ w.cell? ⟨D, 3, none⟩ = some v ∧ w.cell? ⟨D, 4, none⟩ = some u) ∧ ∀ j, w.frozen? ⟨D, j, none⟩ = false := by
  refine ⟨⟨?_, ?_, ?_, ?_, ?_⟩, fun j => by simp only [World.frozen?]; rw [h]; simp⟩
  all_goals
    simp only [World.cell?]; rw [h]; rfl

theorem First_calls {w : World} {L D f : Nat} {own : Option Nat} {rs : List ByteArray} {snap note : ByteArray} (h : LogAt w L D own f rs snap note) :
    Calls Try.prog 21 #[.pointer (some ⟨L, 0, none⟩)] w fun e w' => e = .returned (.int .i64 (f : Int)) ∧ w = w' := by
  obtain ⟨h1, h2, A, cap, hh, hO⟩ := h
  obtain ⟨⟨c0, c1, c2, c3, c4⟩, hf⟩ := five_cells hh
  clear hh hf
  go_enter Try.func21, Try.ntmps21
  go_wp2_with fail
  go_ret
  exact ⟨rfl, rfl⟩
theorem Note_calls {w : World} {L D f : Nat} {own : Option Nat} {rs : List ByteArray} {snap note : ByteArray} (h : LogAt w L D own f rs snap note) :
    Calls Try.prog 25 #[.pointer (some ⟨L, 0, none⟩)] w fun e w' => e = .returned (.string note) ∧ w = w' := by
  obtain ⟨h1, h2, A, cap, hh, hO⟩ := h
  obtain ⟨⟨c0, c1, c2, c3, c4⟩, hf⟩ := five_cells hh
  clear hh hf
  go_enter Try.func25, Try.ntmps25
  go_wp2_with fail
  go_ret
  exact ⟨rfl, rfl⟩
theorem Next_calls {w : World} {L D f : Nat} {own : Option Nat} {rs : List ByteArray} {snap note : ByteArray} (h : LogAt w L D own f rs snap note) :
    Calls Try.prog 15 #[.pointer (some ⟨L, 0, none⟩)] w fun e w' => e = .returned (.int .i64 ((f + rs.length : Nat) : Int)) ∧ ∃ q, w' = w.drewN q := by
  obtain ⟨h1, h2, A, cap, hh, hO⟩ := h
  obtain ⟨⟨c0, c1, c2, c3, c4⟩, hf⟩ := five_cells hh
  have hw := IntWalk.i64_in ((f : Int) + (rs.length : Int)) (by omega)
  clear hh hf
  go_enter Try.func15, Try.ntmps15
  go_wp2_with fail
  go_quiet (fail)
  go_wp2_with fail
  go_ret
  exact ⟨by congr 2, _, rfl⟩
theorem Snap_calls {w : World} {L D f : Nat} {own : Option Nat} {rs : List ByteArray} {snap note : ByteArray} (h : LogAt w L D own f rs snap note) :
    Calls Try.prog 28 #[.pointer (some ⟨L, 0, none⟩)] w fun e w' => e = .returned (.tuple #[.int .i64 (f : Int), .string snap]) ∧ ∃ q, w' = w.drewN q := by
  obtain ⟨h1, h2, A, cap, hh, hO⟩ := h
  obtain ⟨⟨c0, c1, c2, c3, c4⟩, hf⟩ := five_cells hh
  clear hh hf
  go_enter Try.func28, Try.ntmps28
  go_wp2_with fail
  go_quiet (fail)
  go_wp2_with fail
  go_ret2
  exact ⟨rfl, _, rfl⟩
/-- Sync of a log is Sync of its disk -/
theorem LSync_calls {w : World} {L D f : Nat} {own dOwn : Option Nat} {rs : List ByteArray} {snap note : ByteArray} {bs : List UInt8} {safe : Nat} (h : LogAt w L D own f rs snap note) (hd : DiskAt w D dOwn bs safe) :
    Calls Try.prog 13 #[.pointer (some ⟨L, 0, none⟩)] w (Synced w D dOwn bs) := by
  obtain ⟨h1, h2, A, cap, hh, hO⟩ := h
  obtain ⟨⟨c0, c1, c2, c3, c4⟩, hf⟩ := five_cells hh
  clear hh hf
  go_enter Try.func13, Try.ntmps13
  go_wp2_with fail
  refine (Sync_calls hd).mono ?_
  rintro e w1 ⟨rfl, hd1, hc1⟩
  go_wp2_with fail
  go_end0
  exact ⟨rfl, hd1, hc1⟩
end Go.Proofs.Ytlnjadnddldjeaa
