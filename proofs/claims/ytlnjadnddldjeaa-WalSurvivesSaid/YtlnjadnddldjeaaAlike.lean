/-
  Contract of law 21's alike: true just where a log and the document's log hold the same.
-/
import Derived.Test.YtlnjadnddldjeaaRef21b
import Derived.BigQuiet
import Derived.Deep.QuietTactic
namespace Go.Proofs.Ytlnjadnddldjeaa
open Go.RowKit
set_option linter.unusedVariables false
set_option linter.unusedSimpArgs false

theorem toList_data (s : ByteArray) : s.toList = s.data.toList := by
  have := str_toList s.data.toList
  rwa [str_data] at this
theorem str_ne {a b : ByteArray} (h : a ≠ b) : (a.toList == b.toList) = false := beq_eq_false_iff_ne.2 fun e => h (by
  rw [toList_data, toList_data] at e
  obtain ⟨⟨l⟩⟩ := a
  obtain ⟨⟨r⟩⟩ := b
  simp only at e
  rw [e])
/-- what alike answers -/
def AlikeOut (tx ty : LSt) (w : World) (e : Ending) (w' : World) : Prop := ∃ b : Bool, e = .returned (.bool b) ∧ (b = true ↔ tx = ty) ∧ Chg (fun _ => False) w w'
theorem AlikeOut.no {tx ty : LSt} {w w' : World} (h : tx ≠ ty) (hc : Chg (fun _ => False) w w') : AlikeOut tx ty w (.returned (.bool false)) w' := ⟨false, rfl, ⟨(fun h0 => by cases h0), (fun h' => absurd h' h)⟩, hc⟩
theorem AlikeOut.yes {tx ty : LSt} {w w' : World} (h : tx = ty) (hc : Chg (fun _ => False) w w') : AlikeOut tx ty w (.returned (.bool true)) w' := ⟨true, rfl, ⟨fun _ => h, fun _ => rfl⟩, hc⟩
theorem LSt.ext' {a b : LSt} (h1 : a.f = b.f) (h2 : a.rs = b.rs) (h3 : a.snap = b.snap) (h4 : a.note = b.note) : a = b := by
  obtain ⟨f, rs, s, n⟩ := a
  obtain ⟨f', rs', s', n'⟩ := b
  simp only at h1 h2 h3 h4
  subst h1; subst h2; subst h3; subst h4
  rfl
/-- both logs in one world -/
def Both (V U : Nat → Prop) (L D : Nat) (es : List Ent) (safe : Nat) (tx : LSt) (R : Nat) (ty : LSt) (w : World) : Prop := WAt V w L D es safe tx ∧ RefAt U w R ty

set_option maxRecDepth 100000 in
set_option maxHeartbeats 4000000 in
theorem alike_calls {V U : Nat → Prop} {w : World} {L D R : Nat} {es : List Ent} {safe : Nat} {tx ty : LSt} (h : WAt V w L D es safe tx) (g : RefAt U w R ty) :
    Calls Try.prog 34 #[.pointer (some ⟨L, 0, none⟩), .pointer (some ⟨R, 0, none⟩)] w (AlikeOut tx ty w) := by
  have hB : ∀ w', Chg (fun _ => False) w w' → WAt V w' L D es safe tx ∧ RefAt U w' R ty := fun w' hc => ⟨h.keep hc, g.keep hc⟩
  have HSN := Lib.hid (WSnap h)
  have hfx := (init_fit h.rdos h.sizes).2.1
  have hlx := rdos_len h.rdos
  obtain ⟨_, _, _, _, _, _, ⟨_, hlx2, _⟩, _⟩ := id h
  obtain ⟨h1, h2, h3, A, cap, hh, hcs, hg1, hg2⟩ := id g
  obtain ⟨⟨c0, c1, c2, c3⟩, hff⟩ := four_cells' hh
  have HBB := Lib.hid hB
  have HC0 := Lib.hid c0
  have HC2 := Lib.hid c2
  have HC3 := Lib.hid c3
  have hn0 : init21.rs.length = 0 := rfl
  clear hB hff hh hcs c0 c1 c2 c3 h g hg1 hg2 hlx hn0 h1
  obtain ⟨fx, hfx'⟩ : ∃ fx, tx.f = fx := ⟨_, rfl⟩
  obtain ⟨fy, hfy'⟩ : ∃ fy, ty.f = fy := ⟨_, rfl⟩
  obtain ⟨nx, hnx'⟩ : ∃ nx, tx.f + tx.rs.length = nx := ⟨_, rfl⟩
  obtain ⟨ny, hny'⟩ : ∃ ny, ty.f + ty.rs.length = ny := ⟨_, rfl⟩
  rw [hfx'] at HSN hfx
  rw [hfy'] at HC0 h2
  have HFX := Lib.hid hfx'
  have HFY := Lib.hid hfy'
  have HNX := Lib.hid hnx'
  have HNY := Lib.hid hny'
  clear hfx' hfy' hnx' hny'
  go_enter Try.func34, Try.ntmps34
  go_wp2_with fail
  refine HSN.out.mono ?_
  rintro e w1 ⟨rfl, q1, rfl⟩
  obtain ⟨w0, hw0⟩ : ∃ w0, w.drewN q1 = w0 := ⟨_, rfl⟩
  have k0 : Chg (fun _ => False) w w0 := by rw [← hw0]; exact (Chg.refl (fun _ => False) w).drewN q1
  rw [hw0]
  have c0 := k0.cell HC0.out (fun h => h)
  have c2 := k0.cell HC2.out (fun h => h)
  have c3 := k0.cell HC3.out (fun h => h)
  have HFI : Hid (∀ n, Calls Try.prog 21 #[.pointer (some ⟨L, 0, none⟩)] (w0.drewN n) fun e w' => e = .returned (.int .i64 (fx : Int)) ∧ w' = w0.drewN n) := Lib.hid fun n => by
    have := WFirst (HBB.out _ (k0.drewN n)).1
    rw [HFX.out] at this
    exact this.mono fun _ _ ⟨h1, h2⟩ => ⟨h1, h2.symm⟩
  have HNO : Hid (∀ n, Calls Try.prog 25 #[.pointer (some ⟨L, 0, none⟩)] (w0.drewN n) fun e w' => e = .returned (.string tx.note) ∧ w' = w0.drewN n) := Lib.hid fun n =>
    (WNote (HBB.out _ (k0.drewN n)).1).mono fun _ _ ⟨h1, h2⟩ => ⟨h1, h2.symm⟩
  have HNE : Hid (∀ n, Calls Try.prog 15 #[.pointer (some ⟨L, 0, none⟩)] (w0.drewN n) fun e w' => e = .returned (.int .i64 (nx : Int)) ∧ ∃ m, w' = (w0.drewN n).drewN m) := Lib.hid fun n => by
    have := WNext (HBB.out _ (k0.drewN n)).1
    rw [HNX.out] at this
    exact this
  have HRN : Hid (∀ n, Calls Try.prog 42 #[.pointer (some ⟨R, 0, none⟩)] (w0.drewN n) fun e w' => e = .returned (.int .i64 (ny : Int)) ∧ ∃ m, w' = (w0.drewN n).drewN m) := Lib.hid fun n => by
    have := RNext_calls (HBB.out _ (k0.drewN n)).2
    rw [HNY.out] at this
    exact this
  have HCW := HC0
  clear hw0 HSN HC0 HC2 HC3
  by_cases e1 : fx = fy
  · subst e1
    by_cases e2 : tx.snap = ty.snap
    · rw [← e2] at c2
      by_cases e3 : tx.note = ty.note
      · rw [← e3] at c3
        by_cases e4 : nx = ny
        · subst e4
          have HE2 := Lib.hid e2
          have HE3 := Lib.hid e3
          clear e2 e3
          go_wp2_with fail
          go_quiet ((first | (go_at_call 25; exact Calls.quiet_of_same (HNO.out _)) | (go_at_call 21; exact Calls.quiet_of_same (HFI.out _)) | (go_at_call 15; exact Calls.quiet_of (HNE.out _)) | (go_at_call 42; exact Calls.quiet_of (HRN.out _))))
          obtain ⟨w1, hw1⟩ : ∃ w1, w0.drewN nq = w1 := ⟨_, rfl⟩
          have k1 : Chg (fun _ => False) w w1 := by rw [← hw1]; exact k0.drewN nq
          rw [hw1]
          have c0 := k1.cell HCW.out (fun h => h)
          have hlen : tx.rs.length = ty.rs.length := by have := HNX.out; have := HNY.out; have := HFX.out; have := HFY.out; omega
          have HLEN := Lib.hid hlen
          have hlx : tx.rs.length + fx = nx := by have := HNX.out; have := HFX.out; omega
          have HLX := Lib.hid hlx
          obtain ⟨FI, hFIe⟩ : ∃ FI : Int, (fx : Int) = FI := ⟨_, rfl⟩
          obtain ⟨NI, hNIe⟩ : ∃ NI : Int, (nx : Int) = NI := ⟨_, rfl⟩
          have b1 : 0 ≤ FI := by omega
          have b2 : FI ≤ NI := by omega
          have b3 : NI ≤ 1100000000 := by omega
          have HFIE := Lib.hid hFIe
          have HNIE := Lib.hid hNIe
          rw [hFIe] at c0 ⊢
          have hrn : ∀ w', Chg (fun _ => False) w w' → Calls Try.prog 42 #[.pointer (some ⟨R, 0, none⟩)] w' (Told (.int .i64 NI) w') := fun w' hc => by
            have := RNext_calls (HBB.out _ hc).2
            rw [HNY.out, HNIE.out] at this
            exact this
          have HRN2 := Lib.hid hrn
          have hgo : ∀ (w' : World) (I : Int), Chg (fun _ => False) w w' → I < FI ∨ NI ≤ I → Calls Try.prog 22 #[.pointer (some ⟨L, 0, none⟩), .int .i64 I] w' (Told (.tuple #[.string ⟨#[]⟩, .bool false]) w') ∧ Calls Try.prog 43 #[.pointer (some ⟨R, 0, none⟩), .int .i64 I] w' (Told (.tuple #[.string ⟨#[]⟩, .bool false]) w') := fun w' I hc hI => by
            have e1 := HFIE.out
            have e2 := HNIE.out
            refine ⟨WGet_out (HBB.out _ hc).1 ?_, RGet_out (HBB.out _ hc).2 ?_⟩
            · rw [HNX.out, HFX.out]; omega
            · rw [HNY.out, HFY.out]; omega
          have hgi : ∀ (w' : World) (I : Int) (j : Nat) (sx sy : ByteArray), Chg (fun _ => False) w w' → I = FI + (j : Int) → tx.rs[j]? = some sx → ty.rs[j]? = some sy → Calls Try.prog 22 #[.pointer (some ⟨L, 0, none⟩), .int .i64 I] w' (Told (.tuple #[.string sx, .bool true]) w') ∧ Calls Try.prog 43 #[.pointer (some ⟨R, 0, none⟩), .int .i64 I] w' (Told (.tuple #[.string sy, .bool true]) w') := fun w' I j sx sy hc hI h1 h2 => by
            have e1 := HFIE.out
            refine ⟨WGet_in (HBB.out _ hc).1 (k := j) ?_ h1, RGet_in (HBB.out _ hc).2 (k := j) ?_ h2⟩
            · rw [HFX.out]; omega
            · rw [HFY.out]; omega
          have HGO := Lib.hid hgo
          have HGI := Lib.hid hgi
          have K1 := Lib.hid k1
          clear hw1 k0 k1 c2 c3 hlen hlx hFIe hNIe hrn hgo hgi HFI HNO HNE HRN
          go_wp2_with fail
          go_loopw [8] (fun i wr => ∃ (I : Int) (k : Nat), i = .int .i64 I ∧ Hid (I = FI - 1 + (k : Int)) ∧ FI - 1 ≤ I ∧ I ≤ NI + 1 ∧ Hid (tx.rs.take (k - 1) = ty.rs.take (k - 1)) ∧ Hid (Chg (fun _ => False) w wr)) (fun i _ => (NI + 1 - intOf i).toNat)
          case atStart => exact ⟨FI - 1, 0, rfl, Lib.hid (by omega), by omega, by omega, Lib.hid (by simp), K1⟩
          case round =>
            clear K1 c0
            obtain ⟨I, k, rfl, HI, hI1, hI2, HT, HC⟩ := hrel
            obtain ⟨w2, rfl⟩ : ∃ x : World, x = wr := ⟨_, rfl⟩
            by_cases hle : I ≤ NI
            · have hb1 : I + 1 ≤ 1100000001 := by omega
              have hb2 : -1 ≤ I := by omega
              have hcase : (I < FI ∨ NI ≤ I) ∨ (FI ≤ I ∧ I < NI) := by omega
              rcases hcase with ho | ⟨hi1, hi2⟩
              · have HGO' := Lib.hid (fun w' hc => HGO.out w' I hc ho)
                go_wp2_with fail
                refine (HRN2.out _ HC.out).mono ?_
                rintro e w3 ⟨rfl, q3, rfl⟩
                have C3 := Lib.hid (HC.out.drewN q3)
                go_wp2_with fail
                refine (HGO'.out _ C3.out).1.mono ?_
                rintro e w4 ⟨rfl, q4, rfl⟩
                have C4 := Lib.hid (C3.out.drewN q4)
                go_wp2_with fail
                refine (HGO'.out _ (by first | exact C4.out | exact HC.out.drewN _)).2.mono ?_
                rintro e w5 ⟨rfl, q5, rfl⟩
                go_wp2_with fail
                go_roundw
                case rel => exact ⟨I + 1, k + 1, rfl, Lib.hid (by have := HI.out; omega), by omega, by omega, Lib.hid (by
                  have h1 := HI.out
                  have h2 := HT.out
                  have h3 := HLEN.out
                  have h4 := HLX.out
                  have h5 := HFIE.out
                  have h6 := HNIE.out
                  rw [Nat.add_sub_cancel]
                  rcases ho with ho | ho
                  · have hk0 : k = 0 := by omega
                    rw [hk0]; rfl
                  · rw [List.take_of_length_le (by omega), List.take_of_length_le (by omega)] at h2 ⊢
                    exact h2), Lib.hid (HC.out.drewN _)⟩
                case measure => simp [intOf]; omega
              · obtain ⟨j, hj⟩ : ∃ j : Nat, k = j + 1 := ⟨k - 1, by have := HI.out; omega⟩
                have hjl : j < tx.rs.length := by have := HI.out; have := HLX.out; have := HFIE.out; have := HNIE.out; omega
                obtain ⟨sx, hsx⟩ : ∃ sx, tx.rs[j]? = some sx := ⟨_, List.getElem?_eq_getElem hjl⟩
                obtain ⟨sy, hsy⟩ : ∃ sy, ty.rs[j]? = some sy := ⟨_, List.getElem?_eq_getElem (by rw [← HLEN.out]; exact hjl)⟩
                have HGI' := Lib.hid (fun w' hc => HGI.out w' I j sx sy hc (by have := HI.out; omega) hsx hsy)
                have HSX := Lib.hid hsx
                have HSY := Lib.hid hsy
                have HJ := Lib.hid hj
                clear hjl hsx hsy hj
                by_cases hxy : sx = sy
                · subst hxy
                  go_wp2_with fail
                  refine (HRN2.out _ HC.out).mono ?_
                  rintro e w3 ⟨rfl, q3, rfl⟩
                  have C3 := Lib.hid (HC.out.drewN q3)
                  go_wp2_with fail
                  refine (HGI'.out _ C3.out).1.mono ?_
                  rintro e w4 ⟨rfl, q4, rfl⟩
                  go_wp2_with fail
                  refine (HGI'.out _ (HC.out.drewN _)).2.mono ?_
                  rintro e w5 ⟨rfl, q5, rfl⟩
                  go_wp2_with fail
                  go_roundw
                  case rel => exact ⟨I + 1, k + 1, rfl, Lib.hid (by have := HI.out; omega), by omega, by omega, Lib.hid (by
                    have h2 := HT.out
                    have h3 := HJ.out
                    subst h3
                    rw [Nat.add_sub_cancel] at h2 ⊢
                    have l1 := (List.getElem?_eq_some_iff.1 HSX.out)
                    have l2 := (List.getElem?_eq_some_iff.1 HSY.out)
                    rw [List.take_succ_eq_append_getElem l1.1, List.take_succ_eq_append_getElem l2.1, h2, l1.2, l2.2]), Lib.hid (HC.out.drewN _)⟩
                  case measure => simp [intOf]; omega
                · have hsn := str_ne hxy
                  have HXY := Lib.hid hxy
                  clear hxy
                  go_wp2_with fail
                  refine (HRN2.out _ HC.out).mono ?_
                  rintro e w3 ⟨rfl, q3, rfl⟩
                  have C3 := Lib.hid (HC.out.drewN q3)
                  go_wp2_with fail
                  refine (HGI'.out _ C3.out).1.mono ?_
                  rintro e w4 ⟨rfl, q4, rfl⟩
                  go_wp2_with fail
                  refine (HGI'.out _ (HC.out.drewN _)).2.mono ?_
                  rintro e w5 ⟨rfl, q5, rfl⟩
                  go_wp2_with fail
                  go_ret
                  refine AlikeOut.no (fun e => HXY.out ?_) (HC.out.drewN _)
                  have h1 := HSX.out
                  rw [e, HSY.out] at h1
                  injection h1 with h1
                  exact h1.symm
            · go_wp2_with fail
              refine (HRN2.out _ HC.out).mono ?_
              rintro e w3 ⟨rfl, q3, rfl⟩
              go_wp2_with fail
              go_ret
              refine AlikeOut.yes (LSt.ext' (HFX.out.trans HFY.out.symm) ?_ HE2.out HE3.out) (HC.out.drewN _)
              have h1 := HI.out
              have h2 := HT.out
              have h3 := HLEN.out
              have h4 := HLX.out
              have h5 := HFIE.out
              have h6 := HNIE.out
              rw [List.take_of_length_le (by omega), List.take_of_length_le (by omega)] at h2
              exact h2
        · have HE4 := Lib.hid e4
          clear e2 e3
          go_wp2_with fail
          go_quiet ((first | (go_at_call 25; exact Calls.quiet_of_same (HNO.out _)) | (go_at_call 21; exact Calls.quiet_of_same (HFI.out _)) | (go_at_call 15; exact Calls.quiet_of (HNE.out _)) | (go_at_call 42; exact Calls.quiet_of (HRN.out _))))
          go_wp2_with fail
          go_ret
          exact AlikeOut.no (fun e => HE4.out (by rw [← HNX.out, ← HNY.out, e])) (k0.drewN _)
      · have hsn := str_ne e3
        have HE3 := Lib.hid e3
        clear e2 e3
        go_wp2_with fail
        go_quiet ((first | (go_at_call 25; exact Calls.quiet_of_same (HNO.out _)) | (go_at_call 21; exact Calls.quiet_of_same (HFI.out _)) | (go_at_call 15; exact Calls.quiet_of (HNE.out _)) | (go_at_call 42; exact Calls.quiet_of (HRN.out _))))
        go_wp2_with fail
        go_ret
        exact AlikeOut.no (fun e => HE3.out (by rw [e])) (k0.drewN _)
    · have hsn := str_ne e2
      have HE2 := Lib.hid e2
      clear e2
      go_wp2_with fail
      go_quiet ((first | (go_at_call 25; exact Calls.quiet_of_same (HNO.out _)) | (go_at_call 21; exact Calls.quiet_of_same (HFI.out _)) | (go_at_call 15; exact Calls.quiet_of (HNE.out _)) | (go_at_call 42; exact Calls.quiet_of (HRN.out _))))
      go_wp2_with fail
      go_ret
      exact AlikeOut.no (fun e => HE2.out (by rw [e])) (k0.drewN _)
  · have HE1 := Lib.hid e1
    have i0 : ¬ (fx : Int) = (fy : Int) := by omega
    have i1 : ((fx : Int) == (fy : Int)) = false := beq_eq_false_iff_ne.2 i0
    have i2 : ((fx : Int) != (fy : Int)) = true := by rw [bne, i1]; rfl
    have i3 : (fx == fy) = false := beq_eq_false_iff_ne.2 e1
    have i4 : (fx != fy) = true := by rw [bne, i3]; rfl
    go_wp2_with fail
    go_quiet ((first | (go_at_call 25; exact Calls.quiet_of_same (HNO.out _)) | (go_at_call 21; exact Calls.quiet_of_same (HFI.out _)) | (go_at_call 15; exact Calls.quiet_of (HNE.out _)) | (go_at_call 42; exact Calls.quiet_of (HRN.out _))))
    go_wp2_with fail
    go_ret
    exact AlikeOut.no (fun e => HE1.out (by rw [← HFX.out, ← HFY.out, e])) (k0.drewN _)
end Go.Proofs.Ytlnjadnddldjeaa
