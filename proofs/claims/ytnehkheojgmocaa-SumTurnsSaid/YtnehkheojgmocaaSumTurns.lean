/-
  SumTurns: one bit that is turned in what is sealed, or in its seal, is told: the walk through the law.
-/
import Derived.Test.YtnehkheojgmocaaSumKnown
import Derived.Test.YtnehkheojgmocaaDiskSafe
namespace Go.Proofs.Ytnehkheojgmocaa
open Go.RowKit
set_option linter.unusedVariables false
set_option linter.unusedSimpArgs false

theorem turn_with (x : UInt8) (M : Nat) (h0 : 0 < M) (h1 : M < 256) (E : Int) (hE : E = (M : Int)) : ∃ y : UInt8, y ≠ x ∧ bits .xor .u8 (x.toNat : Int) E = (y.toNat : Int) := by
  have hx := x.toNat_lt
  have hlt : x.toNat ^^^ M < 2 ^ 8 := Nat.xor_lt_two_pow (by omega) (by omega)
  refine ⟨UInt8.ofNat (x.toNat ^^^ M), ?_, ?_⟩
  · intro he
    have h2 := congrArg UInt8.toNat he
    rw [UInt8.toNat_ofNat', Nat.mod_eq_of_lt hlt] at h2
    have h3 : x.toNat ^^^ (x.toNat ^^^ M) = x.toNat ^^^ x.toNat := by rw [h2]
    rw [← Nat.xor_assoc, Nat.xor_self, Nat.zero_xor] at h3
    omega
  · rw [hE, u8_xor_nat _ _ (by omega) (by omega), UInt8.toNat_ofNat', Nat.mod_eq_of_lt hlt]
theorem turn_byte (x : UInt8) (r : Nat) (hr : (r : Int) ≤ 7) : ∃ y : UInt8, y ≠ x ∧ bits .xor .u8 (x.toNat : Int) (IntKind.u8.wrap (2 ^ min (IntKind.u64.wrap (r : Int)).toNat 8)) = (y.toNat : Int) := by
  have h : r = 0 ∨ r = 1 ∨ r = 2 ∨ r = 3 ∨ r = 4 ∨ r = 5 ∨ r = 6 ∨ r = 7 := by omega
  rcases h with rfl | rfl | rfl | rfl | rfl | rfl | rfl | rfl
  · exact turn_with x 1 (by omega) (by omega) _ (by decide)
  · exact turn_with x 2 (by omega) (by omega) _ (by decide)
  · exact turn_with x 4 (by omega) (by omega) _ (by decide)
  · exact turn_with x 8 (by omega) (by omega) _ (by decide)
  · exact turn_with x 16 (by omega) (by omega) _ (by decide)
  · exact turn_with x 32 (by omega) (by omega) _ (by decide)
  · exact turn_with x 64 (by omega) (by omega) _ (by decide)
  · exact turn_with x 128 (by omega) (by omega) _ (by decide)
theorem bv_set (l : List UInt8) (k : Nat) (y : UInt8) : bv (l.set k y) = (bv l).set k (.int .u8 (y.toNat : Int)) := by
  simp [bv, List.map_set]

set_option maxRecDepth 100000 in
set_option maxHeartbeats 4000000 in
theorem turns_walk {w : World} {A : Option Addr} {n c : Nat} {la : List UInt8} {at_ bit : Int} (ha : BytesArg w A n c la) (hat : -9223372036854775808 ≤ at_ ∧ at_ ≤ 9223372036854775807) (hbit : -9223372036854775808 ≤ bit ∧ bit ≤ 9223372036854775807) :
    Calls Try.prog 11 #[.slice A n c, .int .i64 at_, .int .i64 bit] w (Holds w) := by
  have hsl := str_toList
  have ba := ha.2
  go_enter Try.func11, Try.ntmps11
  go_upto_if 15 with fail
  go_cut [0] (fun s wx => CutTo 3000 w A c s ∧ w = wx)
  case first =>
    by_cases h : 3000 < n
    all_goals
      go_wp2_with fail
      go_meet
    · exact ⟨cutTo_cut ha h, rfl⟩
    · exact ⟨cutTo_whole ha h, rfl⟩
  case rest =>
    obtain ⟨⟨na, L, rfl, ha1, ha2, ha3, ha4, ha5⟩, rfl⟩ := hcut
    have HA4 := Lib.hid ha4
    have hL : L.length ≤ 3000 := by omega
    clear ha4
    go_wp2_with fail
    refine (Seal_calls ha5 (by omega)).mono ?_
    rintro e w2 ⟨oS, AS, cS, rfl, hS, hSn, hc2⟩
    have hcf := hS.fits
    have hcm := hS.capMax
    have hne0 : ((na : Int) + 4 == 0) = false := by simp; omega
    go_wp2_with fail
    refine (Within_calls at_ _ _ (by omega) (by omega) hat.1 hat.2).mono ?_
    rintro e w3 ⟨k, hk, rfl, rfl⟩
    have hkN : k < na + 4 := by omega
    have hslen : (sealed L).length = na + 4 := by rw [sealed_length, HA4.out]
    have hkS : k < (sealed L).length := by omega
    obtain ⟨g, hg, rfl, hc, hf⟩ := hS.cells (bv_get hkS)
    obtain ⟨x, hx⟩ : ∃ x, (sealed L)[k] = x := ⟨_, rfl⟩
    rw [hx] at hc
    have HX := Lib.hid hx
    have HN := Lib.hid hslen
    have HG := Lib.hid hg
    clear hx hslen hg
    have hk0 : (k : Int) < (na : Int) + 4 := by omega
    go_upto_region 7 with fail
    go_cut [40] (fun s wx => ∃ y, y ≠ x ∧ Own wx 5 oS (some ⟨g, 0, none⟩) (na + 4) cS (bv ((sealed L).set k y)) ∧ Chg (fun _ => False) w wx)
    case first =>
      go_region_with (first
        | (go_at_call 16; refine (Within_calls bit 7 _ (by omega) (by omega) hbit.1 hbit.2).mono ?_; rintro e w5 ⟨r, hr, rfl, rfl⟩))
      all_goals
        go_wp2_with fail
        go_meet
        obtain ⟨y, hy, hyb⟩ := turn_byte x r hr
        rw [hyb]
        refine ⟨y, hy, ?_, (hc2.setNew ?_ _ _).drew⟩
        · rw [bv_set]
          exact (hS.set HG.out k _).drew
        · exact hSn g HG.out
    case rest =>
      obtain ⟨y, hy, hS2, hc4⟩ := hcut
      have hot : opens ((sealed L).set k y) = false := opens_turned L k hkS y (by rw [HX.out]; exact hy)
      have hsl2 : ((sealed L).set k y).length = na + 4 := by rw [List.length_set]; exact HN.out
      generalize (sealed L).set k y = T at hS2 hot hsl2
      have HO := Lib.hid hot
      clear hot hsl2
      go_wp2_with fail
      refine (Open_calls hS2.cs (by omega) hcf hcm).mono ?_
      rintro e w6 hop
      rcases hop with ⟨ho, _⟩ | ⟨_, rfl, hc6⟩
      · rw [HO.out] at ho; cases ho
      have hc06 : Chg (fun _ => False) w w6 := hc4.trans hc6 (fun _ _ h => h)
      go_wp2_with fail
      refine (Seal_calls (ha5.chg hc06 (fun _ _ _ hf => hf)) (by omega)).mono ?_
      rintro e w7 ⟨o7, A7, c7, rfl, h7, hn7, hc7⟩
      have hcf7 := h7.fits
      have hcm7 := h7.capMax
      go_wp2_with fail
      refine (Open_calls h7.cs (by omega) hcf7 hcm7).mono ?_
      rintro e w8 hop
      rcases hop with ⟨_, o8, A8, c8, rfl, h8, hn8, hc8⟩ | ⟨ho, _⟩
      case inr => rw [opens_sealed] at ho; cases ho
      rw [sealed_drop] at h8
      have hc08 : Chg (fun _ => False) w w8 := (hc06.trans hc7 (fun _ _ h => h)).trans hc8 (fun _ _ h => h)
      have hst : (convert 26 9 (.slice A8 na c8)).run Try.prog w8 = .ok (.string (str L)) w8 :=
        run_string (P := Try.prog) Try.underlying26 Try.underlying5 Try.underlying9 h8.cs
      have hst2 : (convert 26 9 (.slice A na c)).run Try.prog w8 = .ok (.string (str L)) w8 :=
        run_string (P := Try.prog) Try.underlying26 Try.underlying5 Try.underlying9 (ha5.chg hc08 (fun _ _ _ hf => hf))
      go_wp2_with fail
      refine (known2 _).mono ?_
      rintro e w9 ⟨rfl, hc9⟩
      go_wp2_with fail
      go_ret
      exact ⟨rfl, hc08.trans hc9 (fun _ _ h => h)⟩
end Go.Proofs.Ytnehkheojgmocaa
