/-
  Contract of package wal's written.
-/
import Derived.Test.YtlnjadnddldjeaaFrames
namespace Go.Proofs.Ytlnjadnddldjeaa
open Go.RowKit
set_option linter.unusedVariables false
set_option linter.unusedSimpArgs false

/-- the bytes of a record ahead of its frame -/
def wrec (kind n : Int) (s : List UInt8) : List UInt8 := (le 1 (Go.Proofs.Ytlnjadnddldjeaa.u64 kind) ++ le 8 (Go.Proofs.Ytlnjadnddldjeaa.u64 n)) ++ s
theorem wrec_length (kind n : Int) (s : List UInt8) : (wrec kind n s).length = s.length + 9 := by
  rw [wrec, List.length_append, List.length_append, le_length, le_length]; omega

set_option maxRecDepth 100000 in
theorem written_calls (w : World) (kind n : Int) (s : ByteArray) (hs : s.size ≤ 80000000) :
    Calls Try.prog 36 #[.int .i64 kind, .int .i64 n, .string s] w (Cloned w (s.size + 21) (fframe (wrec kind n s.data.toList))) := by
  have hse : s.data.toList.length = s.size := by rw [Array.length_toList]; rfl
  have HSE := Lib.hid hse
  have hn2 : (bv s.data.toList).length = s.size := by rw [bv_length, hse]
  have HN2 := Lib.hid hn2
  clear hse hn2
  obtain ⟨D, hD⟩ : ∃ D, w.heap.size = D := ⟨_, rfl⟩
  have HD := Lib.hid hD
  have HNew := NewWriter_calls (fun k => D ≤ k) w (by omega)
  rw [hD] at HNew
  have HNew := Lib.hid HNew
  clear hD
  go_enter Try.func36, Try.ntmps36
  go_wp2_with fail
  refine HNew.out.mono ?_
  rintro e w1 ⟨rfl, hd1, hc1⟩
  have z1 := hc1.size
  have H1 := WByte_calls hd1 (fun k hk => by have := HD.out; omega) kind (by simp)
  rw [List.nil_append] at H1
  have H1 := Lib.hid H1
  clear hd1
  go_wp2_with fail
  refine H1.out.mono ?_
  rintro e w2 ⟨rfl, hd2, hc2⟩
  have z2 := hc2.size
  have H2 := Lib.hid (WLong_calls hd2 (fun k hk => by have := HD.out; omega) n (by rw [le_length]; omega))
  clear hd2 H1
  go_wp2_with fail
  refine H2.out.mono ?_
  rintro e w3 ⟨rfl, hd3, hc3⟩
  have z3 := hc3.size
  have hl9 : (le 1 (Go.Proofs.Ytlnjadnddldjeaa.u64 kind) ++ le 8 (Go.Proofs.Ytlnjadnddldjeaa.u64 n)).length = 9 := by rw [List.length_append, le_length, le_length]
  have H3 := Done_calls hd3 (by rw [hl9]; omega)
  rw [hl9] at H3
  have H3 := Lib.hid H3
  clear hd3 H2 hl9
  go_wp2_with fail
  refine H3.out.mono ?_
  rintro e w4 ⟨own4, A4, c4, rfl, hO, hOn, hc4⟩
  have z4 := hc4.size
  have hsrc := Src.string (P := Try.prog) (w := w4) s
  rw [bv_of_str] at hsrc
  go_wp2_with (at_builtin; refine wpList_append rfl _ _ 31 9 rfl 5 1 stringApp _ _ 9 c4 _ (bv s.data.toList) _ rfl rfl hO hsrc (bv_one _) (s.size + 9) ?_ (by omega) (by omega) ?_)
  · rw [HN2.out]; omega
  · intro own' A' cap' w5 hown' hor hchg
    have hcs : Cs w5 (fun k => own' = some k) A' (s.size + 9) (bv (wrec kind n s.data.toList)) := by
      rw [wrec, bv_append]; exact hown'.cs
    have hF := Frame_calls (c := cap') hcs (by omega)
    have HF := Lib.hid hF
    have a : Chg (fun k => D ≤ k) w w5 := (((hc1.wide.trans hc2 (fun _ _ h => h)).trans hc3 (fun _ _ h => h)).trans hc4 (fun _ _ h => h.elim)).trans hchg (fun i _ h => by have := hOn i h; have := HD.out; omega)
    clear hF hcs
    go_wp2_with fail
    refine HF.out.mono ?_
    rintro e w6 ⟨o6, A6, c6, rfl, h6, hn6, hc6⟩
    go_wp2_with fail
    go_ret
    have z5 := a.size
    exact ⟨o6, A6, c6, rfl, h6, fun g hg => by have := hn6 g hg; omega, (a.trans hc6 (fun _ _ h => h.elim)).new fun k hk h => by have := HD.out; omega⟩
end Go.Proofs.Ytlnjadnddldjeaa
