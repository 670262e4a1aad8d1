/-
  WalBases: a Base is whole behind any crash, with the records behind it; those ahead are gone for good: the walk through the law.
-/
import Derived.Test.YtlnjadnddldjeaaWalTorn
namespace Go.Proofs.Ytlnjadnddldjeaa
open Go.RowKit
set_option linter.unusedVariables false
set_option linter.unusedSimpArgs false

abbrev bNote : ByteArray := ⟨#[110, 111, 116, 101]⟩
abbrev bLost : ByteArray := ⟨#[108, 111, 115, 116]⟩
/-- the record with number i -/
def rc (i : Int) : ByteArray := (⟨#[114, 101, 99, 111, 114, 100, 32]⟩ : ByteArray) ++ Utf8.encode (97 + i)
def rl (k : Nat) : List ByteArray := (List.range k).map fun j => rc ((j + 1 : Nat) : Int)
theorem rl_length (k : Nat) : (rl k).length = k := by simp [rl]
theorem rl_snoc (k : Nat) : rl (k + 1) = rl k ++ [rc ((k + 1 : Nat) : Int)] := by simp [rl, List.range_succ]
theorem rl_get {k j : Nat} (h : j < k) : (rl k)[j]? = some (rc ((j + 1 : Nat) : Int)) := by simp [rl, h]
theorem encode_le4 (r : Int) : (Utf8.encode r).size ≤ 4 := by
  unfold Utf8.encode
  simp only
  repeat' split
  all_goals first | (show 1 ≤ 4; decide) | (show 2 ≤ 4; decide) | (show 3 ≤ 4; decide) | (show 4 ≤ 4; decide)
theorem rc_size (i : Int) : (rc i).size ≤ 100 := by
  have := encode_le4 (97 + i)
  have e : (rc i).size = 7 + (Utf8.encode (97 + i)).size := by rw [rc, ByteArray.size_append]; rfl
  omega
theorem rl_sizes {k : Nat} : ∀ s ∈ rl k, s.size ≤ 100 := by
  intro s hs
  obtain ⟨j, _, rfl⟩ := List.mem_map.1 hs
  exact rc_size _
/-- where the first loop of WalBases stands -/
def BasesAt (V : Nat → Prop) (w0 : World) (L D k : Nat) (w : World) : Prop := Filled V w0 L D (rl k) 0 w

set_option maxRecDepth 100000 in
set_option maxHeartbeats 8000000 in
theorem bases_walk {w : World} {n at_ keep : Int} {snap : ByteArray} (hn : -9223372036854775808 ≤ n ∧ n ≤ 9223372036854775807) (hat : -9223372036854775808 ≤ at_ ∧ at_ ≤ 9223372036854775807) (hsn : snap.size ≤ maxLen) (hkeep : -9223372036854775808 ≤ keep ∧ keep ≤ 9223372036854775807) :
    Calls Try.prog 8 #[.int .i64 n, .int .i64 at_, .string snap, .int .i64 keep] w (Known21 w) := by
  obtain ⟨W, hW⟩ : ∃ W, w.heap.size = W := ⟨_, rfl⟩
  have HW := Lib.hid hW
  have HF := Lib.hid (fresh_calls (fun k => W ≤ k) w (fun k hk => by omega))
  clear hW hsn
  go_enter Try.func8, Try.ntmps8
  go_wp2_with fail
  (with_reducible refine HF.out.mono ?_)
  rintro e w1 ⟨L, D, rfl, h1, k1⟩
  have H1 : Hid (Filled (fun k => W ≤ k) w L D (rl 0) 0 w1) := Lib.hid ⟨h1, k1⟩
  clear h1 k1
  go_wp2_with fail
  refine (Within_calls n 20 _ (by decide) (by decide) hn.1 hn.2).mono ?_
  rintro e w2 ⟨N, hN, rfl, rfl⟩
  have hN20 : N ≤ 20 := by omega
  go_wp2_with fail
  refine (Within_calls at_ ((N : Int) + 3) _ (by omega) (by omega) hat.1 hat.2).mono ?_
  rintro e w3 ⟨p, hp, rfl, rfl⟩
  obtain ⟨P, hP⟩ : ∃ P : Nat, 1 + p = P := ⟨_, rfl⟩
  have hPi : (1 : Int) + (p : Int) = (P : Int) := by omega
  have hP1 : 1 ≤ P := by omega
  have hP2 : P ≤ N + 4 := by omega
  clear hp
  go_wp2_with fail
  go_loopw [12] (fun i wr => ∃ k : Nat, i = .int .i64 ((k + 1 : Nat) : Int) ∧ k ≤ N ∧ Hid (Filled (fun k => W ≤ k) w L D (rl k) 0 wr)) (fun i _ => N + 1 - (intOf i).toNat)
  case atStart => exact ⟨0, rfl, Nat.zero_le _, H1⟩
  case round =>
    clear H1
    obtain ⟨k, rfl, hk, HR⟩ := hrel
    obtain ⟨w0, rfl⟩ : ∃ x : World, x = wr := ⟨_, rfl⟩
    have hz := HR.out.2.size
    by_cases hlt : k < N
    · have HP := Lib.hid (HR.out.put (fun k hk => by have := HW.out; omega) (s := rc ((k + 1 : Nat) : Int)) (m := ((k + 1 : Nat) : Int)) (by rw [rl_length]; omega) (rc_size _) (by rw [rl_length]; omega) rl_sizes)
      have hsn := rl_snoc k
      obtain ⟨K, hK⟩ : ∃ K : Int, ((k + 1 : Nat) : Int) = K := ⟨_, rfl⟩
      rw [hK] at HP hsn ⊢
      have hKN : K ≤ (N : Int) := by omega
      have hK0 : 0 ≤ 97 + K := by omega
      have hK1 : 97 + K ≤ 1000 := by omega
      have hw1 : IntKind.i32.wrap (97 + K) = 97 + K := IntWalk.i32_in _ (by omega)
      obtain ⟨E, hE⟩ : ∃ E, Utf8.encode (97 + K) = E := ⟨_, rfl⟩
      obtain ⟨R, hR⟩ : ∃ R, rc K = R := ⟨_, rfl⟩
      have hEs : ¬ 9223372036854775807 < 7 + E.size := by have := encode_le4 (97 + K); rw [hE] at this; omega
      have hRE : (⟨#[114, 101, 99, 111, 114, 100, 32]⟩ : ByteArray) ++ E = R := by rw [← hR, ← hE]; rfl
      rw [hR] at HP hsn
      have HSN := Lib.hid hsn
      have HK := Lib.hid hK
      have HR' := Lib.hid hR
      clear hsn hR hK HR
      go_wp2_with fail
      (with_reducible refine HP.out.mono ?_)
      rintro e w4 ⟨rfl, h4⟩
      rw [← HSN.out] at h4
      have H4 := Lib.hid h4
      clear h4 HP hEs hRE hE
      have hKn : K + 1 = ((k + 1 + 1 : Nat) : Int) := by have := HK.out; omega
      have HKN := Lib.hid hKn
      clear hKn
      go_wp2_with fail
      go_roundw
      case rel => exact ⟨k + 1, by rw [HKN.out], by omega, H4⟩
      case measure =>
        have := HK.out
        simp [intOf]; omega
    · have hkN : k = N := by omega
      subst hkN
      have hlt' : ¬ ((k + 1 : Nat) : Int) ≤ (k : Int) := by omega
      obtain ⟨K, hK⟩ : ∃ K : Int, ((k + 1 : Nat) : Int) = K := ⟨_, rfl⟩
      rw [hK] at hlt' ⊢
      have hKi : K = (k : Int) + 1 := by omega
      have HKI := Lib.hid hKi
      obtain ⟨hF1, hF2⟩ := HR.out
      have hb := puts_length_le (f := 1) (rl_sizes (k := k))
      rw [rl_length] at hb
      have HM := Lib.hid (WMeta (s := bNote) hF1 (fun k hk => by have := HW.out; omega) (by decide) (by show _ + 25 ≤ _; omega))
      have HF2 := Lib.hid hF2
      clear hF1 hF2 HR hK hKi
      go_wp2_with fail
      (with_reducible refine HM.out.mono ?_)
      rintro e w4 ⟨rfl, h4, k4⟩
      have z4 := k4.size
      have a4 := HF2.out.trans k4 (fun _ _ h => h)
      obtain ⟨fs, hfs⟩ : ∃ fs, few21 snap = fs := ⟨_, rfl⟩
      have hfsz : fs.size ≤ 100 := by rw [← hfs]; exact few21_size snap
      have hfew : ∀ w', Calls Try.prog 12 #[.string snap] w' fun e w'' => e = .returned (.string fs) ∧ w' = w'' := fun w' => by rw [← hfs]; exact few_calls w' snap
      have HFEW := Lib.hid hfew
      obtain ⟨rs, hrs⟩ : ∃ rs, (rl k).drop (P - 1) = rs := ⟨_, rfl⟩
      have hrl : rs.length = k - (P - 1) := by rw [← hrs, List.length_drop, rl_length]
      have hrz : ∀ s ∈ rs, s.size ≤ 100 := fun s hs => rl_sizes s (by rw [← hrs] at hs; exact List.mem_of_mem_drop hs)
      have hib := imgs_length_le (f := P) (snap := fs) (note := bNote) hrz
      have hib2 : (eb (imgs P fs bNote rs)).length ≤ 3000 := by
        have e : bNote.size = 4 := rfl
        have : rs.length * (100 + 21) ≤ 20 * 121 := Nat.mul_le_mul (by omega) (Nat.le_refl _)
        omega
      have hdrop : ({ pst (rl k) with note := bNote } : LSt).rs.drop (P - ({ pst (rl k) with note := bNote } : LSt).f) = rs := hrs
      have HB := WBase h4 (fun k hk => by have := HW.out; omega) (s := fs) (n := P) (m := (P : Int)) rfl hP1 (by omega) (by omega) (by rw [hdrop]; show (eb (imgs P fs bNote rs)).length ≤ _; omega)
      rw [hdrop] at HB
      have e1 : baseS { pst (rl k) with note := bNote } P fs = ⟨P, rs, fs, bNote⟩ := by simp only [baseS]; rw [hdrop]
      rw [e1] at HB
      have HB := Lib.hid (show Calls Try.prog _ _ _ (Did (.int .i64 0) _ _ L D (imgs P fs bNote rs) (eb (imgs P fs bNote rs)).length ⟨P, rs, fs, bNote⟩) from HB)
      have HIB := Lib.hid hib2
      have HRL := Lib.hid hrl
      have HRS := Lib.hid hrs
      clear hfs hfew hrz hib hib2 hdrop e1 h4 k4 hrl hrs HM HF2 hb
      go_wp2_with fail
      refine (HFEW.out _).mono ?_
      rintro e w5 ⟨rfl, rfl⟩
      go_wp2_with fail
      (with_reducible refine HB.out.mono ?_)
      rintro e w6 ⟨rfl, h6, k6⟩
      have z6 := k6.size
      have a6 := a4.trans k6 (fun _ _ h => h)
      obtain ⟨Q, hQ⟩ : ∃ Q : Nat, P + rs.length = Q := ⟨_, rfl⟩
      have hQ1 : (Q : Int) = max ((k : Int) + 1) (P : Int) := by have := HRL.out; omega
      have HN := WNext h6
      rw [show (((⟨P, rs, fs, bNote⟩ : LSt).f + (⟨P, rs, fs, bNote⟩ : LSt).rs.length : Nat) : Int) = (Q : Int) by rw [← hQ]] at HN
      have HN := Lib.hid HN
      have HQ := Lib.hid hQ
      have HQ1 := Lib.hid hQ1
      have H6 := Lib.hid h6
      clear h6 k6 a4 HB hQ hQ1
      go_wp2_with fail
      (with_reducible refine HN.out.mono ?_)
      rintro e w7 ⟨rfl, q7, rfl⟩
      have k7 := (Chg.refl (fun _ => False) w6).drewN q7
      have h7 := H6.out.keep k7
      have a7 := a6.trans k7 (fun _ _ h => h.elim)
      have z7 := a7.size
      obtain ⟨w7, hw7⟩ : ∃ w7, w6.drewN q7 = w7 := ⟨_, rfl⟩
      rw [hw7] at h7 a7 z7 ⊢
      have HPL := Lib.hid (WPut h7 (fun k hk => by have := HW.out; omega) (s := bLost) (n := Q) (m := (Q : Int)) rfl (by show P ≤ Q; have := HQ.out; omega) (by show Q ≤ P + rs.length; have := HQ.out; omega) (by have := HQ.out; have := HRL.out; omega) (by decide) (by show rs.length < _; have := HRL.out; omega) (by have := HIB.out; show _ + 25 ≤ _; omega))
      clear h7 hw7 k7 a6 HN H6
      go_wp2_with fail
      (with_reducible refine HPL.out.mono ?_)
      rintro e w8 ⟨rfl, h8, k8⟩
      have z8 := k8.size
      have a8 := a7.trans k8 (fun _ _ h => h)
      have H8 := Lib.hid h8
      clear h8 k8 a7 HPL
      go_wp2_with fail
      refine (Within_calls keep 3 _ (by decide) (by decide) hkeep.1 hkeep.2).mono ?_
      rintro e w9 ⟨r, hr, rfl, rfl⟩
      have HC := Lib.hid (WCrash H8.out (r : Int))
      go_wp2_with fail
      (with_reducible refine HC.out.mono ?_)
      rintro e w10 ⟨rfl, h10, k10⟩
      have z10 := k10.size
      have a10 := a8.trans k10 (fun _ _ h => h)
      have hs8 := H8.out.sizes
      have hr8 := H8.out.rdos
      have hl8 : (eb (imgs P fs bNote rs ++ [Ent.put Q bLost])).length = (eb (imgs P fs bNote rs)).length + 25 := by rw [eb_snoc_length]; rfl
      have hk8 : kept (eb (imgs P fs bNote rs ++ [Ent.put Q bLost])).length (eb (imgs P fs bNote rs)).length (r : Int) = (eb (imgs P fs bNote rs)).length + r := by
        rw [hl8]; unfold kept; omega
      have htk : (imgs P fs bNote rs ++ [Ent.put Q bLost]).take (imgs P fs bNote rs).length = imgs P fs bNote rs := List.take_left' rfl
      rw [hk8] at h10
      obtain ⟨j, t2, hj1, hj2, hj3, hj4, HO⟩ := WCrashed (i := (imgs P fs bNote rs).length) h10 (fun k hk => by have := HW.out; omega) hs8 hr8 (by simp) (by rw [htk]; omega) (by rw [hl8]; omega)
      have hjj : j = (imgs P fs bNote rs).length := by
        have e1 : (imgs P fs bNote rs ++ [Ent.put Q bLost]).length = (imgs P fs bNote rs).length + 1 := by rw [List.length_append]; rfl
        have : ¬ j = (imgs P fs bNote rs).length + 1 := fun e => by
          rw [e, ← e1, List.take_length, hl8] at hj3
          omega
        omega
      subst hjj
      rw [htk] at hj4 HO
      have ht2 : t2 = ⟨P, rs, fs, bNote⟩ := by
        have e := rdos_imgs P fs bNote rs hP1 (by omega)
        rw [hj4] at e
        injection e
      subst ht2
      have HOO := Lib.hid HO
      clear h10 k10 a8 hs8 hr8 hl8 hk8 htk hj1 hj2 hj3 hj4 HO HC H8
      go_wp2_with fail
      (with_reducible refine HOO.out.mono ?_)
      rintro e w11 ⟨L2, rfl, h11, hL2, k11⟩
      have a11 := a10.trans k11 (fun _ _ h => h)
      obtain ⟨R, hR⟩ : ∃ R : World → Prop, (fun w' => WAt (fun k => W ≤ k) w' L2 D (imgs P fs bNote rs) (eb (imgs P fs bNote rs)).length ⟨P, rs, fs, bNote⟩ ∧ Chg (fun k => W ≤ k) w w') = R := ⟨_, rfl⟩
      have h11r : R w11 := by rw [← hR]; exact ⟨h11, a11⟩
      have HRR := Lib.hid hR
      have hRd : ∀ w' q, R w' → R (w'.drewN q) := fun w' q h => by
        rw [← HRR.out] at h ⊢
        exact ⟨h.1.keep ((Chg.refl (fun _ => False) w').drewN q), h.2.drewN q⟩
      have HRD := Lib.hid hRd
      have HSNAP : Hid (∀ w' : World, R w' → Calls Try.prog 28 #[.pointer (some ⟨L2, 0, none⟩)] w' (Told (.tuple #[.int .i64 (P : Int), .string fs]) w')) := Lib.hid fun w' h => by
        rw [← HRR.out] at h; exact WSnap h.1
      have HFIRST : Hid (∀ w' : World, R w' → Calls Try.prog 21 #[.pointer (some ⟨L2, 0, none⟩)] w' (fun e w'' => e = .returned (.int .i64 (P : Int)) ∧ w' = w'')) := Lib.hid fun w' h => by
        rw [← HRR.out] at h; exact WFirst h.1
      have HNEXT : Hid (∀ w' : World, R w' → Calls Try.prog 15 #[.pointer (some ⟨L2, 0, none⟩)] w' (Told (.int .i64 (Q : Int)) w')) := Lib.hid fun w' h => by
        rw [← HRR.out] at h
        have := WNext h.1
        rwa [show (((⟨P, rs, fs, bNote⟩ : LSt).f + (⟨P, rs, fs, bNote⟩ : LSt).rs.length : Nat) : Int) = (Q : Int) by rw [← HQ.out]] at this
      have HNOTE : Hid (∀ w' : World, R w' → Calls Try.prog 25 #[.pointer (some ⟨L2, 0, none⟩)] w' (fun e w'' => e = .returned (.string bNote) ∧ w' = w'')) := Lib.hid fun w' h => by
        rw [← HRR.out] at h; exact WNote h.1
      have HIN : Hid (∀ (w' : World) (i : Nat), R w' → P ≤ i → i < Q → Calls Try.prog 22 #[.pointer (some ⟨L2, 0, none⟩), .int .i64 (i : Int)] w' (Told (.tuple #[.string (rc (i : Int)), .bool true]) w')) := Lib.hid fun w' i h h1 h2 => by
        rw [← HRR.out] at h
        exact WGet_in h.1 (k := i - P) (by show ((P + (i - P) : Nat) : Int) = _; omega) (by
          show rs[i - P]? = _
          have := HQ.out
          have := HRL.out
          rw [← HRS.out, List.getElem?_drop, rl_get (by omega)]
          congr 3; omega)
      have HOUT : Hid (∀ (w' : World) (i : Nat), R w' → i < P → Calls Try.prog 22 #[.pointer (some ⟨L2, 0, none⟩), .int .i64 (i : Int)] w' (Told (.tuple #[.string ⟨#[]⟩, .bool false]) w')) := Lib.hid fun w' i h h1 => by
        rw [← HRR.out] at h
        exact WGet_out h.1 (.inl (by show (i : Int) < (P : Int); omega))
      have HEND : Hid (∀ w', R w' → Chg (fun k => W ≤ k) w w') := Lib.hid fun w' h => by rw [← HRR.out] at h; exact h.2
      have H11 := Lib.hid h11r
      clear h11 k11 a10 a11 h11r hR hRd HOO hL2
      go_wp2_with fail
      refine (HSNAP.out _ H11.out).mono ?_
      rintro e w12 ⟨rfl, q12, rfl⟩
      have H12 := Lib.hid (HRD.out _ q12 H11.out)
      obtain ⟨w12, hw12⟩ : ∃ w12, w11.drewN q12 = w12 := ⟨_, rfl⟩
      rw [hw12] at H12 ⊢
      clear hw12 H11
      go_upto_if 84 with fail
      go_cut [17] (fun s wx => s = .int .i64 (Q : Int) ∧ w12 = wx)
      case first =>
        have hqc : (P : Int) ≤ (k : Int) + 1 ∨ (k : Int) + 1 < (P : Int) := by omega
        have HQ1' := HQ1.out
        rcases hqc with hqc | hqc
        · have hq2 : (Q : Int) = (k : Int) + 1 := by omega
          have HQ2 := Lib.hid hq2
          clear HQ1' hq2
          go_wp2_with fail
          go_meet
          exact ⟨by rw [HQ2.out], rfl⟩
        · have hq2 : (Q : Int) = (P : Int) := by omega
          have HQ2 := Lib.hid hq2
          clear HQ1' hq2
          go_wp2_with fail
          go_meet
          exact ⟨by rw [HQ2.out], rfl⟩
      case rest =>
        obtain ⟨rfl, rfl⟩ := hcut
        go_wp2_with fail
        refine (HFEW.out _).mono ?_
        rintro e w13 ⟨rfl, rfl⟩
        go_wp2_with fail
        refine (HFIRST.out _ H12.out).mono ?_
        rintro e w13 ⟨rfl, rfl⟩
        go_wp2_with fail
        refine (HNEXT.out _ H12.out).mono ?_
        rintro e w13 ⟨rfl, q13, rfl⟩
        have H13 := Lib.hid (HRD.out _ q13 H12.out)
        obtain ⟨w13, hw13⟩ : ∃ w13, w12.drewN q13 = w13 := ⟨_, rfl⟩
        rw [hw13] at H13 ⊢
        clear hw13 H12
        go_wp2_with fail
        refine (HNOTE.out _ H13.out).mono ?_
        rintro e w14 ⟨rfl, rfl⟩
        go_wp2_with fail
        go_loopw [18] (fun i wr => ∃ j : Nat, i = .int .i64 (j : Int) ∧ 1 ≤ j ∧ j ≤ Q + 1 ∧ Hid (R wr)) (fun i _ => Q + 1 - (intOf i).toNat)
        case atStart => exact ⟨1, rfl, Nat.le_refl _, by omega, H13⟩
        case round =>
          clear H13
          obtain ⟨j, rfl, hj1, hj2, HR⟩ := hrel
          obtain ⟨w0, rfl⟩ : ∃ x : World, x = wr := ⟨_, rfl⟩
          have hQ25 : Q ≤ 30 := by have := HQ1.out; omega
          by_cases hlt : j < Q
          · obtain ⟨J, hJ⟩ : ∃ J : Int, (j : Int) = J := ⟨_, rfl⟩
            have hJQ : J < (Q : Int) := by omega
            have hJ1 : J + 1 = ((j + 1 : Nat) : Int) := by omega
            have HJ1 := Lib.hid hJ1
            have hJ0 : 0 ≤ J := by omega
            have hJb : J ≤ 1000 := by omega
            have hjt : (J).toNat = j := by omega
            have HJT := Lib.hid hjt
            by_cases hpj : P ≤ j
            · have hG := HIN.out w0 j HR.out hpj hlt
              rw [hJ] at hG ⊢
              have hPJ : (P : Int) ≤ J := by omega
              have hK0 : 0 ≤ 97 + J := by omega
              have hK1 : 97 + J ≤ 1000 := by omega
              have hw1 : IntKind.i32.wrap (97 + J) = 97 + J := IntWalk.i32_in _ (by omega)
              obtain ⟨E, hE⟩ : ∃ E, Utf8.encode (97 + J) = E := ⟨_, rfl⟩
              obtain ⟨S, hS⟩ : ∃ S, rc J = S := ⟨_, rfl⟩
              have hEs : ¬ 9223372036854775807 < 7 + E.size := by have := encode_le4 (97 + J); rw [hE] at this; omega
              have hRE : (⟨#[114, 101, 99, 111, 114, 100, 32]⟩ : ByteArray) ++ E = S := by rw [← hS, ← hE]; rfl
              rw [hS] at hG
              have HG := Lib.hid hG
              clear hG hS hJ1 hjt hJ
              go_wp2_with fail
              (with_reducible refine HG.out.mono ?_)
              rintro e w14 ⟨rfl, q14, rfl⟩
              go_wp2_with fail
              go_roundw
              case rel => exact ⟨j + 1, by rw [HJ1.out], by omega, by omega, Lib.hid (HRD.out _ q14 HR.out)⟩
              case measure =>
                have := HJ1.out
                simp [intOf]; omega
            · have hG := HOUT.out w0 j HR.out (by omega)
              rw [hJ] at hG ⊢
              have hPJ : ¬ (P : Int) ≤ J := by omega
              have HG := Lib.hid hG
              clear hG hJ1 hjt hJ
              go_wp2_with fail
              (with_reducible refine HG.out.mono ?_)
              rintro e w14 ⟨rfl, q14, rfl⟩
              go_wp2_with fail
              go_roundw
              case rel => exact ⟨j + 1, by rw [HJ1.out], by omega, by omega, Lib.hid (HRD.out _ q14 HR.out)⟩
              case measure =>
                have := HJ1.out
                simp [intOf]; omega
          · have hlti : ¬ (j : Int) < (Q : Int) := by omega
            go_wp2_with fail
            refine (known_calls _).mono ?_
            rintro e w14 ⟨rfl, k14⟩
            go_wp2_with fail
            go_ret
            exact ⟨rfl, ((HEND.out _ HR.out).trans k14 (fun _ _ h => h.elim)).new fun i hi h => by have := HW.out; omega⟩
end Go.Proofs.Ytlnjadnddldjeaa
