/-
  The closed sentence 'known' of layer 17 (some of chapter 17's runs): true, and nothing that was there has changed.
-/
import Derived.Test.YtiibkbkcncmjoaaLoad
import Derived.Test.YtiibkbkcncmjoaaWireKnown
namespace Go.Proofs.Ytiibkbkcncmjoaa
open Go.RowKit
set_option linter.unusedVariables false
set_option linter.unusedSimpArgs false

theorem rep_def (y a : Int) (z : ByteArray) : rep y a z = .agg #[.int .i64 y, .int .i64 a, .string z] := rfl
/-- the table of 'known' behind its Done -/
def f17 : Nat → SRec := supd (fun _ => SRec.zero) 0 ⟨1, 0, 3, ⟨#[]⟩⟩

set_option maxRecDepth 100000 in
set_option maxHeartbeats 1000000 in
theorem known17 (w : World) : Calls Try.prog 46 #[] w (Holds1 w) := by
  have hrep := rep_def
  go_enter Try.func46, Try.ntmps46
  go_wp2_with fail
  refine (Tbl_new w).mono ?_
  rintro e w1 ⟨rfl, ht1, hc1⟩
  obtain ⟨T, hT⟩ : ∃ T, w.heap.size = T := ⟨_, rfl⟩
  rw [hT] at ht1 ⊢
  have HT := Lib.hid hT
  clear hT
  go_wp2_with fail
  refine (Done_new (k := 0) (q := 1) (y' := 0) (a' := 3) (z' := ⟨#[]⟩) ht1 (by decide) (by decide) (by decide)).mono ?_
  rintro e w2 ⟨rfl, ht2, hc2⟩
  have ht2 : TblAt w2 T f17 := ht2
  have a2 : Chg (fun k => k = T) w w2 := hc1.wide.trans hc2 (fun _ _ h => h)
  clear ht1 hc1 hc2
  go_wp2_with fail
  refine (Ask_calls (c := 0) (q := 1) ht2 (by decide) (by decide)).mono ?_
  rw [show show_ f17 0 1 = 2 from rfl, show (sans f17 0 1).rep = rep 0 3 ⟨#[]⟩ from rfl]
  rintro e w3 ⟨rfl, hc3⟩
  have hX3 : (w3.alloc (.cells #[.int .i64 0, .int .i64 3, .string ⟨#[]⟩] 60)).heap[w3.heap.size]? = some (.cells #[.int .i64 0, .int .i64 3, .string ⟨#[]⟩] 60 (0, 0)) := heap_alloc_new w3 _
  have ht3 := (ht2.keep hc3).keep ((Chg.refl _ w3).alloc (.cells #[.int .i64 0, .int .i64 3, .string ⟨#[]⟩] 60))
  have a3 := (a2.trans hc3 (fun _ _ h => h.elim)).alloc (.cells #[.int .i64 0, .int .i64 3, .string ⟨#[]⟩] 60)
  clear ht2 a2
  go_wp2_with fail
  obtain ⟨X, hX⟩ : ∃ X, w3.heap.size = X := ⟨_, rfl⟩
  rw [hX] at hX3 ⊢
  generalize w3.alloc (.cells #[.int .i64 0, .int .i64 3, .string ⟨#[]⟩] 60) = w4 at hX3 ht3 a3 ⊢
  clear hX
  refine (Ask_calls (c := 0) (q := 2) ht3 (by decide) (by decide)).mono ?_
  rw [show show_ f17 0 2 = 1 from rfl, show (sans f17 0 2).rep = rep 0 0 ⟨#[]⟩ from rfl]
  rintro e w5 ⟨rfl, hc5⟩
  have hX5 := (hc5.heap hX3 (fun h => h))
  have hX6 := ((Chg.refl (fun _ => False) w5).alloc (.cells #[.int .i64 0, .int .i64 0, .string ⟨#[]⟩] 60)).heap hX5 (fun h => h)
  have ht5 := (ht3.keep hc5).keep ((Chg.refl _ w5).alloc (.cells #[.int .i64 0, .int .i64 0, .string ⟨#[]⟩] 60))
  have a5 := (a3.trans hc5 (fun _ _ h => h.elim)).alloc (.cells #[.int .i64 0, .int .i64 0, .string ⟨#[]⟩] 60)
  have x0 : (w5.alloc (.cells #[.int .i64 0, .int .i64 0, .string ⟨#[]⟩] 60)).cell? ⟨X, 0, none⟩ = some (.int .i64 0) := by simp only [World.cell?]; rw [hX6]; rfl
  have x1 : (w5.alloc (.cells #[.int .i64 0, .int .i64 0, .string ⟨#[]⟩] 60)).cell? ⟨X, 1, none⟩ = some (.int .i64 3) := by simp only [World.cell?]; rw [hX6]; rfl
  have x2 : (w5.alloc (.cells #[.int .i64 0, .int .i64 0, .string ⟨#[]⟩] 60)).cell? ⟨X, 2, none⟩ = some (.string ⟨#[]⟩) := by simp only [World.cell?]; rw [hX6]; rfl
  clear hX3 ht3 a3 hX5 hX6
  go_wp2_with fail
  generalize w5.alloc (.cells #[.int .i64 0, .int .i64 0, .string ⟨#[]⟩] 60) = w6 at x0 x1 x2 ht5 a5 ⊢
  refine (Last_calls (c := 0) ht5 (by decide)).mono ?_
  rw [show slast f17 0 = 1 from rfl]
  rintro e w7 ⟨rfl, q, rfl⟩
  go_wp2_with fail
  go_ret
  exact ⟨rfl, (a5.drewN q).new fun k hk h => by have := HT.out; omega⟩
end Go.Proofs.Ytiibkbkcncmjoaa
