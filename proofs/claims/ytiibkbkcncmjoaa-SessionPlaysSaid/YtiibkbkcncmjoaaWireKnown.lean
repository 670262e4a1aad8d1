/-
  The closed sentence 'known' of layer 1 (some of chapter 1's runs): true, and nothing that was there has changed.
-/
import Derived.Test.YtiibkbkcncmjoaaRead
namespace Go.Proofs.Ytiibkbkcncmjoaa
open Go.RowKit
set_option linter.unusedVariables false
set_option linter.unusedSimpArgs false

/-- true is returned, and no block that was there has changed -/
def Holds1 (w : World) (e : Ending) (w' : World) : Prop := e = .returned (.bool true) ∧ Chg (fun _ => False) w w'
theorem Chg.new {V : Nat → Prop} {w w' : World} (h : Chg V w w') (hn : ∀ k, k < w.heap.size → ¬ V k) : Chg (fun _ => False) w w' := h.mono fun i hi hv => hn i hi hv

theorem Chg.wide {T : Nat → Prop} {w w' : World} (h : Chg (fun _ => False) w w') : Chg T w w' := h.mono fun _ _ h => h.elim

theorem Cs.lit (w : World) (l : List UInt8) (cs : List Value) (h : cs = bv l) (n : Nat) (hn : l.length = n) : Cs (w.alloc (.cells cs.toArray 5)) (fun k => k = w.heap.size) (some ⟨w.heap.size, 0, none⟩) n (bv l) := by
  subst h; subst hn
  refine ⟨bv_length l, fun _ => ⟨w.heap.size, 0, rfl, rfl, fun j u hu => ?_⟩⟩
  rw [Nat.zero_add, cell_of_row (w.alloc (.cells (bv l).toArray 5)) w.heap.size j (bv l).toArray 5 (0, 0) (heap_alloc_new w _)]
  simpa using hu

set_option maxRecDepth 100000 in
set_option maxHeartbeats 1000000 in
theorem known1 (w : World) : Calls Try.prog 19 #[] w (Holds1 w) := by
  have e1 : ([] : List UInt8) ++ le 2 (u64 258) = [2, 1] := by decide
  have e2 : ([2, 1] : List UInt8) ++ (le 2 (ByteArray.mk #[97, 98]).size ++ (ByteArray.mk #[97, 98]).data.toList) = [2, 1, 2, 0, 97, 98] := by decide
  have E1 := Lib.hid e1
  have E2 := Lib.hid e2
  clear e1 e2
  go_enter Try.func19, Try.ntmps19
  go_wp2_with fail
  refine (NewWriter_calls (fun k => w.heap.size ≤ k) w (Nat.le_refl _)).mono ?_
  rintro e w1 ⟨rfl, hd1, hc1⟩
  obtain ⟨D, hD⟩ : ∃ D, w.heap.size = D := ⟨_, rfl⟩
  have hz1 := hc1.size
  rw [hD] at hd1 hz1 ⊢
  go_wp2_with fail
  refine (NewReader_calls (fun k => w1.heap.size ≤ k) (Cs.lit w1 [2, 0, 97, 98] _ rfl 4 rfl) (by decide) (fun k hk => by simp at hk; omega)).mono ?_
  rintro e w2 ⟨R, rfl, hR, hr2, hc2⟩
  have hc12 := ((Chg.refl (fun _ => False) w1).alloc _).trans hc2 (fun _ _ h => h)
  have hz2 := hc12.size
  have hd2 : WrAt (fun k => D ≤ k ∧ (k < w1.heap.size ∨ w2.heap.size ≤ k)) w2 D [] := (hd1.mono (fun k hk hv => ⟨hv, .inl hk⟩)).keep hc12
  have hr2' : RdAt (fun k => w1.heap.size ≤ k ∧ k < w2.heap.size) w2 R [2, 0, 97, 98] ⟨0, 0, 0⟩ := hr2.mono fun k hk hv => ⟨hv, hk⟩
  go_wp2_with fail
  refine (WShort_calls hd2 (fun k hk => ⟨by omega, .inr hk⟩) 258 (by decide)).mono ?_
  rintro e w3 ⟨rfl, hd3, hc3⟩
  rw [E1.out] at hd3
  have hr3 := hr2'.chg hc3 (fun k hk h1 h2 => by omega)
  have hz3 := hc3.size
  go_wp2_with fail
  refine (WText_calls hd3 (fun k hk => ⟨by omega, .inr (by omega)⟩) ⟨#[97, 98]⟩ (by decide)).mono ?_
  rintro e w4 ⟨rfl, hd4, hc4⟩
  rw [E2.out] at hd4
  have hr4 := hr3.chg hc4 (fun k hk h1 h2 => by omega)
  go_wp2_with fail
  refine (RText_calls hr4 1).mono ?_
  rintro e w5 ⟨rfl, hr5, hc5⟩
  have hd5 := hd4.chg hc5 (fun k hk h1 h2 => by have := hr4.inV; omega)
  rw [show rtext [2, 0, 97, 98] 1 ⟨0, 0, 0⟩ = ([], ⟨2, 3, 0⟩) from rfl] at hr5 ⊢
  go_wp2_with fail
  refine (End_calls hr5).mono ?_
  rintro e w6 ⟨rfl, q, rfl⟩
  have hd6 := hd5.keep ((Chg.refl _ w5).drewN q)
  rw [show rwhy [2, 0, 97, 98] ⟨2, 3, 0⟩ = 3 from rfl, show rwhere [2, 0, 97, 98] ⟨2, 3, 0⟩ = 0 from rfl]
  go_wp2_with fail
  refine (Done_calls hd6 (by decide)).mono ?_
  rintro e w7 ⟨own, A, cap, rfl, hown, hnew, hc7⟩
  have hst : (convert 22 9 (.slice A 6 cap)).run Try.prog w7 = .ok (.string (str [2, 1, 2, 0, 97, 98])) w7 :=
    run_string (P := Try.prog) Try.underlying22 Try.underlying5 Try.underlying9 hown.cs
  have hss : (str [2, 1, 2, 0, 97, 98]).toList = [2, 1, 2, 0, 97, 98] := str_toList _
  have hs0 : (str []).toList = [] := str_toList _
  go_wp2_with fail
  go_ret
  refine ⟨rfl, ?_⟩
  have a1 : Chg (fun k => D ≤ k) w w5 := (((hc1.trans hc12 (fun _ _ h => h)).wide.trans hc3 (fun _ _ h => h.1)).trans hc4 (fun _ _ h => h.1)).trans hc5 (fun i _ h => by have := hr4.inV; omega)
  exact ((a1.drewN q).trans hc7 (fun _ _ h => h.elim)).new fun k hk h => by omega
end Go.Proofs.Ytiibkbkcncmjoaa
