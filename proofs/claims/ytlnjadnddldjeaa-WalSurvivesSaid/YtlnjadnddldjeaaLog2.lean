/-
  Contracts of a log's Get.
-/
import Derived.Test.YtlnjadnddldjeaaLog
namespace Go.Proofs.Ytlnjadnddldjeaa
open Go.RowKit
set_option linter.unusedVariables false
set_option linter.unusedSimpArgs false

theorem strsApp : AppT Try.prog 22 22 9 16 := by
  obtain ⟨i, hi, hz, hs, hb⟩ := info_parts (P := Try.prog) (e := 9) (z := Value.string ⟨#[]⟩) (size := 1) (bytes := 16) (by kernel_rfl)
  exact ⟨Try.underlying22, .inl ⟨_, Try.underlying22⟩, i, _, hi, hz, hs, hb, rfl⟩

theorem LGet_in {w : World} {L D f k : Nat} {own : Option Nat} {rs : List ByteArray} {snap note s : ByteArray} (h : LogAt w L D own f rs snap note) (hs : rs[k]? = some s) :
    Calls Try.prog 22 #[.pointer (some ⟨L, 0, none⟩), .int .i64 ((f + k : Nat) : Int)] w fun e w' => e = .returned (.tuple #[.string s, .bool true]) ∧ ∃ q, w' = w.drewN q := by
  have hN := Next_calls h
  obtain ⟨h1, h2, A, cap, hh, hO⟩ := h
  obtain ⟨⟨c0, c1, c2, c3, c4⟩, hf⟩ := five_cells hh
  have hk : k < rs.length := (List.getElem?_eq_some_iff.1 hs).1
  obtain ⟨b, off, rfl, -, hcell⟩ := hO.cs.2 (by omega)
  have q := hcell k (.string s) (by simp [sv, hs])
  obtain ⟨m, hm⟩ : ∃ m, f + k = m := ⟨_, rfl⟩
  obtain ⟨N, hNN⟩ : ∃ N, f + rs.length = N := ⟨_, rfl⟩
  rw [hNN] at hN
  rw [hm]
  have g1 : ¬ (m : Int) < (f : Int) := by omega
  have g2 : ¬ (N : Int) ≤ (m : Int) := by omega
  have g3 : (m : Int) - (f : Int) = (k : Int) := by omega
  have g4 : ¬ (k : Int) < 0 := by omega
  have g5 : ¬ (rs.length : Int) ≤ (k : Int) := by omega
  have g6 : (k : Int) < (rs.length : Int) := by omega
  have HN := Lib.hid hN
  clear hN hm hNN hcell hh hf hO hs
  go_enter Try.func22, Try.ntmps22
  go_wp2_with fail
  refine HN.out.mono ?_
  rintro e w1 ⟨rfl, q1, rfl⟩
  go_wp2_with fail
  go_quiet (fail)
  go_wp2_with fail
  go_ret2
  exact ⟨rfl, _, by first | exact World.drewN_drewN _ _ _ | simp only [World.drewN_add] | (simp; rfl)⟩
theorem LGet_out {w : World} {L D f : Nat} {n : Int} {own : Option Nat} {rs : List ByteArray} {snap note : ByteArray} (h : LogAt w L D own f rs snap note) (hn : n < (f : Int) ∨ ((f + rs.length : Nat) : Int) ≤ n) :
    Calls Try.prog 22 #[.pointer (some ⟨L, 0, none⟩), .int .i64 n] w fun e w' => e = .returned (.tuple #[.string ⟨#[]⟩, .bool false]) ∧ ∃ q, w' = w.drewN q := by
  have hN := Next_calls h
  obtain ⟨h1, h2, A, cap, hh, hO⟩ := h
  obtain ⟨⟨c0, c1, c2, c3, c4⟩, hf⟩ := five_cells hh
  obtain ⟨N, hNN⟩ : ∃ N, f + rs.length = N := ⟨_, rfl⟩
  rw [hNN] at hN hn
  have HN := Lib.hid hN
  clear hN hNN hh hf hO
  by_cases g1 : n < (f : Int)
  · go_enter Try.func22, Try.ntmps22
    go_wp2_with fail
    go_ret2
    exact ⟨rfl, 0, rfl⟩
  · have g2 : (N : Int) ≤ n := by omega
    clear hn
    go_enter Try.func22, Try.ntmps22
    go_wp2_with fail
    refine HN.out.mono ?_
    rintro e w1 ⟨rfl, q1, rfl⟩
    go_wp2_with fail
    go_ret2
    exact ⟨rfl, q1, rfl⟩
end Go.Proofs.Ytlnjadnddldjeaa
