/-
  DiskRounds: whatever is appended in rounds, each synced, is there behind crashes between, in its order: the walk through the law.
-/
import Derived.Test.YtnehkheojgmocaaDiskKnown
import Derived.Test.YtnehkheojgmocaaArgs
namespace Go.Proofs.Ytnehkheojgmocaa
open Go.RowKit
set_option linter.unusedVariables false

theorem str_append (a b : List UInt8) : str a ++ str b = str (a ++ b) := by
  simp only [str]
  exact ByteArray.mk_append_mk a b
theorem str_extract (l : List UInt8) (k : Nat) : (str l).extract 0 k = str (l.take k) := by
  apply ByteArray.ext
  rw [ByteArray.data_extract]
  simp [str]
def lost : List UInt8 := [108, 111, 115, 116]
theorem round_kept (M : List UInt8) (r : Nat) (hr : r ≤ 4) :
    kept (M ++ lost).length M.length (r : Int) = (M ++ lost.take r).length ∧
      (M ++ lost).take (M ++ lost.take r).length = M ++ lost.take r ∧ (M ++ lost.take r).length ≤ M.length + 4 := by
  have h4 : lost.length = 4 := rfl
  have h1 : (M ++ lost.take r).length = M.length + r := by rw [List.length_append, List.length_take]; omega
  have h2 : (M ++ lost).length = M.length + 4 := by rw [List.length_append, h4]
  refine ⟨?_, ?_, ?_⟩
  · rw [h1, h2]
    unfold kept
    omega
  · rw [h1, List.take_length_add_append]
  · rw [h1]; omega

set_option maxHeartbeats 2000000 in
theorem rounds_walk {w : World} {A B : Option Addr} {n c m d : Nat} {vs : List Value} {ks : List Int} (hl : RowsArg w A n c vs) (hk : IntsArg w B m d ks) :
    Calls Try.prog 3 #[.slice A n c, .slice B m d] w (Holds w) := by
  have kc := fun (w : World) (C : Array Value) (n c : Nat) => Lib.run_convert_bytes_const (P := Try.prog) w 26 5 C n c Try.underlying26 Try.underlying5
  have hsz := str_size
  have hsl := str_toList
  obtain ⟨hlc, hln, hlm, hlv⟩ := hl
  obtain ⟨hkc, hkn, hkm, hkv⟩ := hk
  have HLV := Lib.hid hlv
  have HKV := Lib.hid hkv
  clear hlv hkv
  have e0 : (ByteArray.mk #[]) = str [] := rfl
  have hse := str_extract
  have hl4 : lost.length = 4 := rfl
  have elost : (ByteArray.mk #[108, 111, 115, 116]) = str lost := rfl
  go_enter Try.func3, Try.ntmps3
  go_wp2_with fail
  refine (New_in _).mono ?_
  rintro e w1 ⟨rfl, hd1⟩
  obtain ⟨D, hD⟩ : ∃ D, w.heap.size = D := ⟨_, rfl⟩
  rw [hD] at hd1 ⊢
  have HD := Lib.hid hD
  clear hD
  go_wp2_with fail
  go_loopw [6, 7] (fun s i wr => ∃ (k : Nat) (bs : List UInt8), k ≤ n ∧ k ≤ 12 ∧ i = .int .i64 k ∧ s = .string (str bs) ∧ DiskIn w wr D bs bs.length ∧ bs.length ≤ k * 104) (fun _ i _ => n - (intOf i).toNat)
  case atStart => exact ⟨0, [], Nat.zero_le _, Nat.zero_le _, rfl, rfl, hd1, by simp⟩
  case round =>
    obtain ⟨k, bs, hk1, hk2, rfl, rfl, hd, hbl⟩ := hrel
    by_cases hrun : k < n ∧ k < 12
    · obtain ⟨hlt, h12⟩ := hrun
      have hvl : k < vs.length := by have := hlc.1; omega
      have hget : vs[k]? = some vs[k] := List.getElem?_eq_getElem hvl
      obtain ⟨A', n', c', l', hv, hb, hn', hm'⟩ := HLV.out vs[k] (List.getElem_mem hvl)
      rw [hv] at hget
      clear hv
      have hlc' := hlc.chg hd.kept (fun _ _ _ hf => hf)
      obtain ⟨b, off, rfl, _, hcell⟩ := hlc'.2 (by omega)
      have hck := hcell k _ hget
      clear hcell hget hvl
      have hbN := DiskIn.le hd
      have hcut : ∃ (N : Nat) (L : List UInt8), N ≤ 100 ∧ Cs w (fun k => k < w.heap.size) A' N (bv L) ∧ L.length = N ∧ ((100 < n' ∧ N = 100) ∨ (n' ≤ 100 ∧ N = n')) := by
        have hll : l'.length = n' := by rw [← bv_length]; exact hb.1
        by_cases h100 : 100 < n'
        · exact ⟨100, l'.take 100, Nat.le_refl _, by rw [bv_take]; exact hb.take (by omega), by rw [List.length_take]; omega, .inl ⟨h100, rfl⟩⟩
        · exact ⟨n', l', by omega, hb, hll, .inr ⟨by omega, rfl⟩⟩
      obtain ⟨N, L, hN, hL, hLl, hcase⟩ := hcut
      have HLl := Lib.hid hLl
      clear hLl hb
      have hkeep : (k < m ∧ ∃ z, z ∈ ks ∧ ∃ b off, B = some ⟨b, off, none⟩ ∧ b < w.heap.size ∧ w.cell? ⟨b, off + k, none⟩ = some (.int .i64 z)) ∨ ¬ k < m := by
        by_cases hkm : k < m
        · have hkl : k < ks.length := by have := hkc.1; simp at this; omega
          obtain ⟨b, off, hB, hbs, hcell⟩ := hkc.2 (by omega)
          exact .inl ⟨hkm, ks[k], List.getElem_mem hkl, b, off, hB, hbs, hcell k _ (by simp [hkl])⟩
        · exact .inr hkm
      rcases hcase with ⟨h100, rfl⟩ | ⟨h100, rfl⟩
      all_goals
        go_wp2_with fail
        refine (Append_in hd (hL.chg hd.kept (fun _ _ _ hf => hf)) (by omega)).mono ?_
        rintro e w2 ⟨rfl, hd2⟩
        go_wp2_with fail
        refine (Sync_in hd2).mono ?_
        rintro e w3 ⟨rfl, hd3⟩
        have hst := run_string (P := Try.prog) (c := c') Try.underlying26 Try.underlying5 Try.underlying9 (hL.chg hd3.kept (fun _ _ _ hf => hf))
        have hlen3 : (bs ++ L).length ≤ k * 104 + 100 := by rw [List.length_append, HLl.out]; omega
        have hbs3 : bs.length + L.length ≤ 100000000 := by rw [HLl.out]; omega
        have hsa1 := str_append bs L
        generalize bs ++ L = M at hd3 hlen3 hsa1
        go_wp2_with fail
        refine (Append_in (hd3.alloc _) (Cs.new w3 lost _ (4, 5)) (by simp only [lost, List.length_cons, List.length_nil]; omega)).mono ?_
        rintro e w4 ⟨rfl, hd4⟩
        clear hst hsa1
        rcases hkeep with ⟨hkm, z, hz, b2, off2, rfl, hb2, hcz⟩ | hkm
        · have hcz4 := hd4.kept.cell hcz (fun h => h)
          have hzb := HKV.out z hz
          go_wp2_with fail
          refine (Within_calls z 4 _ (by omega) (by omega) hzb.1 hzb.2).mono ?_
          rintro e w5 ⟨r, hr, rfl, rfl⟩
          obtain ⟨ek, et, hY⟩ := round_kept M r (by omega)
          go_wp2_with fail
          have hd6 := Crash_in (r : Int) hd4
          rw [ek, et] at hd6
          have hY2 : (M ++ lost.take r).length ≤ (k + 1) * 104 := by omega
          have hsa2 := str_append M (lost.take r)
          have hlt4 : (lost.take r).length ≤ 4 := by rw [List.length_take]; omega
          generalize M ++ lost.take r = Y at hd6 hsa2 hY2
          clear ek et hY
          refine hd6.mono ?_
          rintro e w6 ⟨rfl, hd7⟩
          go_wp2_with fail
          refine (Bytes_in hd7).mono ?_
          rintro e w8 ⟨own, A8, cap8, rfl, hcs, hd8⟩
          have hst8 := run_string (P := Try.prog) (c := cap8) Try.underlying26 Try.underlying5 Try.underlying9 hcs
          go_wp2_with fail
          refine (Safe_in hd8).mono ?_
          rintro e w9 ⟨rfl, rfl⟩
          go_wp2_with fail
          go_roundw
          case rel => exact ⟨k + 1, Y, by omega, by omega, by go_num, rfl, hd8, hY2⟩
          case measure => simp [intOf]; omega
        · have hkm' : m ≤ k := by omega
          obtain ⟨ek, et, hY⟩ := round_kept M 0 (by omega)
          go_wp2_with fail
          have hd6 := Crash_in ((0 : Nat) : Int) hd4
          rw [ek, et] at hd6
          have hY2 : (M ++ lost.take 0).length ≤ (k + 1) * 104 := by omega
          rw [List.take_zero, List.append_nil] at hd6 hY2
          clear ek et hY
          refine hd6.mono ?_
          rintro e w6 ⟨rfl, hd7⟩
          go_wp2_with fail
          refine (Bytes_in hd7).mono ?_
          rintro e w8 ⟨own, A8, cap8, rfl, hcs, hd8⟩
          have hst8 := run_string (P := Try.prog) (c := cap8) Try.underlying26 Try.underlying5 Try.underlying9 hcs
          go_wp2_with fail
          refine (Safe_in hd8).mono ?_
          rintro e w9 ⟨rfl, rfl⟩
          go_wp2_with fail
          go_roundw
          case rel => exact ⟨k + 1, M, by omega, by omega, by go_num, rfl, hd8, hY2⟩
          case measure => simp [intOf]; omega
    · have hor : n ≤ k ∨ ¬ k < n ∨ 12 ≤ k := by omega
      go_wp2_with fail
      all_goals
        refine (Bytes_in hd).mono ?_
        rintro e w7 ⟨own, A', cap, rfl, hcs, hd7⟩
        have hst : (convert 26 9 (.slice A' bs.length cap)).run Try.prog w7 = .ok (.string (str bs)) w7 :=
          run_string (P := Try.prog) Try.underlying26 Try.underlying5 Try.underlying9 hcs
        go_wp2_with fail
        refine (known20 _).mono ?_
        rintro e w8 ⟨rfl, hc8⟩
        go_wp2_with fail
        go_ret
        exact ⟨rfl, hd7.kept.trans hc8 fun _ _ h => h⟩
end Go.Proofs.Ytnehkheojgmocaa
