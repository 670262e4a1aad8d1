/-
  SessionNumbers: chapter 17's runs: the walk through the closed law.
-/
import Derived.Test.YtiibkbkcncmjoaaKnown17
import Derived.Lib.SlBytesConst
namespace Go.Proofs.Ytiibkbkcncmjoaa
open Go.RowKit
set_option linter.unusedVariables false
set_option linter.unusedSimpArgs false

theorem Cs.new' (w : World) (l : List UInt8) (t : TypeId) (fr : Nat × Nat) : Cs (w.alloc (.cells (bv l).toArray t fr)) (fun k => k = w.heap.size) (some ⟨w.heap.size, 0, none⟩) l.length (bv l) := by
  refine ⟨bv_length l, fun _ => ⟨w.heap.size, 0, rfl, rfl, fun j u hu => ?_⟩⟩
  rw [Nat.zero_add, cell_of_row _ _ _ _ _ _ (heap_alloc_new w _)]
  simpa using hu
theorem srec_off {l : List UInt8} {s : RS} (h : s.y ≠ 0) : (srec l s).2 = s := by
  unfold srec
  rw [rtake_off h]
  simp only
  rw [rtake_off h]
  simp only
  rw [rtake_off h]
  simp only
  unfold sget
  rw [rtake_off h]
  simp only
  rw [sgetL_stop (fun hh => h hh.2)]
theorem sloads_off {l : List UInt8} (h : (sloads l 1).2.y ≠ 0) : ∀ k, (sloads l (k + 1)).2 = (sloads l 1).2
  | 0 => rfl
  | k + 1 => by
    have ih := sloads_off h k
    show (srec l (sloads l (k + 1)).2).2 = _
    rw [ih]
    exact srec_off h
theorem bad_no : ¬ Good [110, 111] := by
  intro hg
  have h1 : (sloads [110, 111] 1).2.y ≠ 0 := by decide
  have h2 := sloads_off h1 15
  have h3 := hg.2.1
  rw [h2] at h3
  exact h1 h3
/-- the table of the runs -/
def fnum : Nat → SRec := supd (fun _ => SRec.zero) 15 ⟨5, 0, 0, ⟨#[120]⟩⟩
theorem fnum_ok : ∀ k, (fnum k).fits ∧ svalid (fnum k) := by
  intro k
  unfold fnum
  by_cases h : k = 15
  · subst h
    rw [supd_same]
    exact ⟨by unfold SRec.fits; decide, by decide, by decide, fun h => by simp at h⟩
  · rw [supd_other _ _ h]
    exact ⟨by unfold SRec.fits SRec.zero; decide, by decide, by decide, fun _ => ⟨rfl, rfl, rfl⟩⟩
theorem ssave_small {f : Nat → SRec} {B : Nat} (h : ∀ k, (f k).z.size ≤ B) : ∀ n, (ssave f n).length ≤ n * (34 + 3 * B)
  | 0 => by simp [ssave]
  | n + 1 => by
    have ih := ssave_small h n
    have h1 := h n
    have h2 := sput_length (f n).z.data.toList
    have e : (f n).z.data.toList.length = (f n).z.size := by rw [Array.length_toList]; rfl
    rw [ssave, List.length_append, srecb_length]
    rw [e] at h2
    have h3 : (n + 1) * (34 + 3 * B) = n * (34 + 3 * B) + (34 + 3 * B) := Nat.succ_mul _ _
    omega
theorem fnum_save : (ssave fnum 16).length ≤ 1000 := by
  have h := ssave_small (f := fnum) (B := 1) (fun k => by
    unfold fnum
    by_cases h : k = 15
    · subst h; rw [supd_same]; decide
    · rw [supd_other _ _ h]; decide) 16
  omega

set_option maxRecDepth 100000 in
set_option maxHeartbeats 4000000 in
theorem snumbers_walk (w : World) : Calls Try.prog 10 #[] w (Holds1 w) := by
  have hrep := rep_def
  have kc := fun (w : World) (C : Array Value) (n c : Nat) => Lib.run_convert_bytes_const (P := Try.prog) w 22 5 C n c Try.underlying22 Try.underlying5
  go_enter Try.func10, Try.ntmps10
  go_wp2_with fail
  refine (Tbl_new w).mono ?_
  rintro e w1 ⟨rfl, ht1, hc1⟩
  obtain ⟨T, hT⟩ : ∃ T, w.heap.size = T := ⟨_, rfl⟩
  rw [hT] at ht1 ⊢
  have HT := Lib.hid hT
  have a1 : Chg (fun k => T ≤ k) w w1 := hc1.wide
  clear hT hc1
  go_wp2_with fail
  refine (Ask_calls (c := 16) (q := 1) ht1 (by decide) (by decide)).mono ?_
  rw [show show_ (fun _ => SRec.zero) 16 1 = 0 from rfl, show (sans (fun _ => SRec.zero) 16 1).rep = rep 0 0 ⟨#[]⟩ from rfl]
  rintro e wx2 ⟨rfl, hc2⟩
  have ht2 := (ht1.keep hc2).keep ((Chg.refl _ wx2).alloc (.cells #[.int .i64 0, .int .i64 0, .string ⟨#[]⟩] 60))
  have a2 := (a1.trans hc2 (fun _ _ h => h.elim)).alloc (.cells #[.int .i64 0, .int .i64 0, .string ⟨#[]⟩] 60)
  clear ht1 a1 hc2
  go_wp2_with fail
  generalize wx2.alloc (.cells #[.int .i64 0, .int .i64 0, .string ⟨#[]⟩] 60) = w2 at ht2 a2 ⊢
  go_wp2_with fail
  refine (Ask_calls (c := (-1)) (q := 1) ht2 (by decide) (by decide)).mono ?_
  rw [show show_ (fun _ => SRec.zero) (-1) 1 = 0 from rfl, show (sans (fun _ => SRec.zero) (-1) 1).rep = rep 0 0 ⟨#[]⟩ from rfl]
  rintro e wx3 ⟨rfl, hc3⟩
  have ht3 := (ht2.keep hc3).keep ((Chg.refl _ wx3).alloc (.cells #[.int .i64 0, .int .i64 0, .string ⟨#[]⟩] 60))
  have a3 := (a2.trans hc3 (fun _ _ h => h.elim)).alloc (.cells #[.int .i64 0, .int .i64 0, .string ⟨#[]⟩] 60)
  clear ht2 a2 hc3
  go_wp2_with fail
  generalize wx3.alloc (.cells #[.int .i64 0, .int .i64 0, .string ⟨#[]⟩] 60) = w3 at ht3 a3 ⊢
  go_wp2_with fail
  refine (Ask_calls (c := 0) (q := 0) ht3 (by decide) (by decide)).mono ?_
  rw [show show_ (fun _ => SRec.zero) 0 0 = 0 from rfl, show (sans (fun _ => SRec.zero) 0 0).rep = rep 0 0 ⟨#[]⟩ from rfl]
  rintro e wx4 ⟨rfl, hc4⟩
  have ht4 := (ht3.keep hc4).keep ((Chg.refl _ wx4).alloc (.cells #[.int .i64 0, .int .i64 0, .string ⟨#[]⟩] 60))
  have a4 := (a3.trans hc4 (fun _ _ h => h.elim)).alloc (.cells #[.int .i64 0, .int .i64 0, .string ⟨#[]⟩] 60)
  clear ht3 a3 hc4
  go_wp2_with fail
  generalize wx4.alloc (.cells #[.int .i64 0, .int .i64 0, .string ⟨#[]⟩] 60) = w4 at ht4 a4 ⊢
  go_wp2_with fail
  refine (Ask_calls (c := 0) (q := 1073741825) ht4 (by decide) (by decide)).mono ?_
  rw [show show_ (fun _ => SRec.zero) 0 1073741825 = 0 from rfl, show (sans (fun _ => SRec.zero) 0 1073741825).rep = rep 0 0 ⟨#[]⟩ from rfl]
  rintro e wx5 ⟨rfl, hc5⟩
  have ht5 := (ht4.keep hc5).keep ((Chg.refl _ wx5).alloc (.cells #[.int .i64 0, .int .i64 0, .string ⟨#[]⟩] 60))
  have a5 := (a4.trans hc5 (fun _ _ h => h.elim)).alloc (.cells #[.int .i64 0, .int .i64 0, .string ⟨#[]⟩] 60)
  clear ht4 a4 hc5
  go_wp2_with fail
  generalize wx5.alloc (.cells #[.int .i64 0, .int .i64 0, .string ⟨#[]⟩] 60) = w5 at ht5 a5 ⊢
  refine (Done_new (k := 15) (q := 5) (y' := 0) (a' := 0) (z' := ⟨#[120]⟩) ht5 (by decide) (by decide) (by decide)).mono ?_
  rintro e w6 ⟨rfl, ht6, hc6⟩
  have ht6 : TblAt w6 T fnum := ht6
  have a6 := a5.trans hc6 (fun _ _ h => by omega)
  clear ht5 a5 hc6
  go_wp2_with fail
  refine (Done_no (c := 15) (q := 2) (y' := 0) (a' := 0) (z' := ⟨#[]⟩) ht6 (by decide) (by decide) (by decide)).mono ?_
  rintro e w7 ⟨rfl, hc7⟩
  have ht7 := ht6.keep hc7
  have a7 := a6.trans hc7 (fun _ _ h => h.elim)
  clear ht6 a6 hc7
  go_wp2_with fail
  refine (Ask_calls (c := 15) (q := 2) ht7 (by decide) (by decide)).mono ?_
  rw [show show_ fnum 15 2 = 3 from rfl, show (sans fnum 15 2).rep = rep 0 0 ⟨#[]⟩ from rfl]
  rintro e wx8 ⟨rfl, hc8⟩
  have ht8 := (ht7.keep hc8).keep ((Chg.refl _ wx8).alloc (.cells #[.int .i64 0, .int .i64 0, .string ⟨#[]⟩] 60))
  have a8 := (a7.trans hc8 (fun _ _ h => h.elim)).alloc (.cells #[.int .i64 0, .int .i64 0, .string ⟨#[]⟩] 60)
  clear ht7 a7 hc8
  go_wp2_with fail
  generalize wx8.alloc (.cells #[.int .i64 0, .int .i64 0, .string ⟨#[]⟩] 60) = w8 at ht8 a8 ⊢
  refine (Save_calls ht8 (by have := fnum_save; omega)).mono ?_
  rintro e wS ⟨oS, AS, cS, rfl, hownS, hnS, hcS⟩
  have htS := ht8.keep hcS
  have aS := a8.trans hcS (fun _ _ h => h.elim)
  clear ht8 a8
  have hgood := good_saved (f := fnum) (fun k _ => (fnum_ok k).1) (fun k _ => (fnum_ok k).2)
  have HG := Lib.hid hgood
  have hsv := fnum_save
  generalize ssave fnum 16 = L at hownS HG hsv ⊢
  clear hgood
  go_wp2_with fail
  refine (Load_calls hownS.cs (by omega)).mono ?_
  rintro e wL ⟨hcL, ⟨rfl, hbad⟩ | ⟨U, rfl, hU, htU, -⟩⟩
  · exact absurd HG.out.1 hbad
  have htU := htU.congr (g := fnum) HG.out.2
  have htL := htS.keep hcL
  have aL := aS.trans hcL (fun _ _ h => h.elim)
  clear htS aS HG hownS hcS
  go_wp2_with fail
  refine (Load_calls (Cs.new' wL [110, 111] _ (2, 3)) (by decide)).mono ?_
  rintro e wN ⟨hcN, ⟨rfl, -⟩ | ⟨U2, -, -, -, hgd⟩⟩
  rotate_left
  · exact absurd hgd bad_no
  have kN : Chg (fun _ => False) wL wN := ((Chg.refl _ wL).alloc _).trans hcN (fun _ _ h => h)
  have htN := htL.keep kN
  have hUN := htU.keep kN
  have aN := aL.trans kN (fun _ _ h => h.elim)
  clear htL htU aL kN hcN
  go_wp2_with fail
  refine (Ask_calls (c := 15) (q := 5) hUN (by decide) (by decide)).mono ?_
  rw [show show_ fnum 15 5 = 2 from rfl, show (sans fnum 15 5).rep = rep 0 0 ⟨#[120]⟩ from rfl]
  rintro e wA ⟨rfl, hcA⟩
  have hXA : (wA.alloc (.cells #[.int .i64 0, .int .i64 0, .string ⟨#[120]⟩] 60)).heap[wA.heap.size]? = some (.cells #[.int .i64 0, .int .i64 0, .string ⟨#[120]⟩] 60 (0, 0)) := heap_alloc_new wA _
  have htA := (htN.keep hcA).keep ((Chg.refl _ wA).alloc (.cells #[.int .i64 0, .int .i64 0, .string ⟨#[120]⟩] 60))
  have aA := (aN.trans hcA (fun _ _ h => h.elim)).alloc (.cells #[.int .i64 0, .int .i64 0, .string ⟨#[120]⟩] 60)
  clear htN hUN aN hcA
  go_wp2_with fail
  obtain ⟨X, hX⟩ : ∃ X, wA.heap.size = X := ⟨_, rfl⟩
  try rw [hX] at hXA ⊢
  generalize wA.alloc (.cells #[.int .i64 0, .int .i64 0, .string ⟨#[120]⟩] 60) = wB at hXA htA aA ⊢
  clear hX
  refine (Last_calls (c := 16) htA (by decide)).mono ?_
  rw [show slast fnum 16 = 0 from rfl]
  rintro e wC ⟨rfl, qC, rfl⟩
  go_wp2_with fail
  refine (Last_calls (c := 3) (htA.keep ((Chg.refl _ wB).drewN qC)) (by decide)).mono ?_
  rw [show slast fnum 3 = 0 from rfl]
  rintro e wD ⟨rfl, qD, rfl⟩
  go_wp2_with fail
  refine (known17 _).mono ?_
  rintro e wE ⟨rfl, hcE⟩
  go_wp2_with fail
  go_ret
  have aE : Chg (fun k => T ≤ k) w wE := (aA.drewN (qC + qD)).trans hcE (fun _ _ h => h.elim)
  exact ⟨rfl, aE.new fun k hk h => by have := HT.out; omega⟩
end Go.Proofs.Ytiibkbkcncmjoaa
