/-
  WalTorn: the bytes of a log that are cut off behind what was safe open to what the log was at some time: the walk through the law.
-/
import Derived.Test.YtlnjadnddldjeaaKnown21
import Derived.Test.YtlnjadnddldjeaaArgs21
import Derived.Deep.CutBlock
namespace Go.Proofs.Ytlnjadnddldjeaa
open Go.RowKit
set_option linter.unusedVariables false
set_option linter.unusedSimpArgs false

/-- a log of records alone -/
def pst (ls : List ByteArray) : LSt := ⟨1, ls, ⟨#[]⟩, ⟨#[]⟩⟩
theorem pst_put (ls : List ByteArray) (s : ByteArray) : putS (pst ls) (1 + ls.length) s = pst (ls ++ [s]) := by
  have e : 1 + ls.length - 1 = ls.length := by omega
  simp only [putS, pst, e, List.take_length]
theorem puts_put (ls : List ByteArray) (s : ByteArray) : puts 1 ls ++ [Ent.put (1 + ls.length) s] = puts 1 (ls ++ [s]) := (puts_snoc 1 ls s).symm
theorem puts_take (f : Nat) (ls : List ByteArray) (k : Nat) : (puts f ls).take k = puts f (ls.take k) := by
  induction ls generalizing f k with
  | nil => simp [puts]
  | cons s ls ih =>
    cases k with
    | zero => rfl
    | succ k => simp only [puts, List.take_succ_cons, ih]
theorem pst_puts (ls : List ByteArray) : rdos init21 (puts 1 ls) = some (pst ls) := by
  rw [rdos_puts 1 init21 ls rfl]
  simp [init21, pst]
/-- the first k of them, each cut to 100 bytes -/
def fews (ss : List ByteArray) (k : Nat) : List ByteArray := (ss.take k).map few21
theorem fews_length {ss : List ByteArray} {k : Nat} (h : k ≤ ss.length) : (fews ss k).length = k := by simp [fews]; omega
theorem fews_size {ss : List ByteArray} {k : Nat} : ∀ s ∈ fews ss k, s.size ≤ 100 := by
  intro s hs
  obtain ⟨x, _, rfl⟩ := List.mem_map.1 hs
  exact few21_size x
theorem fews_snoc {ss : List ByteArray} {k : Nat} {s : ByteArray} (h : ss[k]? = some s) : fews ss (k + 1) = fews ss k ++ [few21 s] := by
  have hk := List.getElem?_eq_some_iff.1 h
  rw [fews, fews, List.take_succ_eq_append_getElem hk.1, List.map_append, hk.2]
  rfl
theorem fews_zero (ss : List ByteArray) : fews ss 0 = [] := rfl

/-- a log that was filled with records alone -/
def Filled (V : Nat → Prop) (w0 : World) (L D : Nat) (ls : List ByteArray) (safe : Nat) (w : World) : Prop := WAt V w L D (puts 1 ls) safe (pst ls) ∧ Chg V w0 w
theorem Filled.put {V : Nat → Prop} {w0 w : World} {L D : Nat} {ls : List ByteArray} {safe : Nat} (h : Filled V w0 L D ls safe w) (hV : ∀ k, w.heap.size ≤ k → V k) {s : ByteArray} {m : Int} (hm : ((1 + ls.length : Nat) : Int) = m) (hs : s.size ≤ 100) (hl : ls.length ≤ 20) (hz : ∀ s ∈ ls, s.size ≤ 100) :
    Calls Try.prog 11 #[.pointer (some ⟨L, 0, none⟩), .int .i64 m, .string s] w (fun e w' => e = .returned (.int .i64 0) ∧ Filled V w0 L D (ls ++ [s]) safe w') := by
  have hb := puts_length_le (f := 1) hz
  refine (WPut h.1 hV (s := s) (n := 1 + ls.length) hm (by show 1 ≤ _; omega) (by show _ ≤ 1 + ls.length; omega) (by omega) (by omega) (by show ls.length < _; omega) (by omega)).mono ?_
  rintro e w' ⟨rfl, h1, hc⟩
  rw [puts_put, pst_put] at h1
  exact ⟨rfl, h1, h.2.trans hc (fun _ _ h => h)⟩

def TornAt1 (V : Nat → Prop) (w0 : World) (L D : Nat) (ss : List ByteArray) (n0 k : Nat) (w : World) : Prop := Filled V w0 L D (fews ss k) 0 w ∧ k ≤ n0 ∧ k ≤ 8
def TornAt2 (V : Nat → Prop) (w0 : World) (L D : Nat) (ls ss : List ByteArray) (n0 k : Nat) (w : World) : Prop := Filled V w0 L D (ls ++ fews ss k) (eb (puts 1 ls)).length w ∧ k ≤ n0 ∧ k ≤ 8
/-- both logs, read -/
def TornAt3 (W E : Nat) (w0 : World) (L D L2 : Nat) (xs : List ByteArray) (ex : List Ent) (sx : Nat) (ys : List ByteArray) (ey : List Ent) (sy : Nat) (w : World) : Prop :=
  WAt (fun k => W ≤ k ∧ k < E) w L D ex sx (pst xs) ∧ WAt (fun k => E ≤ k) w L2 E ey sy (pst ys) ∧ Chg (fun k => W ≤ k) w0 w
theorem TornAt3.drewN {W E L D L2 sx sy : Nat} {w0 w : World} {xs ys : List ByteArray} {ex ey : List Ent} (h : TornAt3 W E w0 L D L2 xs ex sx ys ey sy w) (q : Nat) : TornAt3 W E w0 L D L2 xs ex sx ys ey sy (w.drewN q) :=
  have k := (Chg.refl (fun _ => False) w).drewN q
  ⟨h.1.keep k, h.2.1.keep k, h.2.2.drewN q⟩

set_option maxRecDepth 100000 in
set_option maxHeartbeats 8000000 in
theorem torn_walk {w : World} {A0 A1 : Option Addr} {n0 c0 n1 c1 : Nat} {ss0 ss1 : List ByteArray} {keep : Int} (ha0 : StrsArg w A0 n0 c0 ss0) (ha1 : StrsArg w A1 n1 c1 ss1) (hkeep : -9223372036854775808 ≤ keep ∧ keep ≤ 9223372036854775807) :
    Calls Try.prog 3 #[.slice A0 n0 c0, .slice A1 n1 c1, .int .i64 keep] w (Known21 w) := by
  obtain ⟨hq0, hc0, hm0, -⟩ := ha0
  obtain ⟨hq1, hc1, hm1, -⟩ := ha1
  have hl0 : ss0.length = n0 := by rw [← sv_length]; exact hq0.1
  have hl1 : ss1.length = n1 := by rw [← sv_length]; exact hq1.1
  have HL0 := Lib.hid hl0
  have HL1 := Lib.hid hl1
  have HQ0 := Lib.hid hq0
  have HQ1 := Lib.hid hq1
  obtain ⟨W, hW⟩ : ∃ W, w.heap.size = W := ⟨_, rfl⟩
  have HW := Lib.hid hW
  have HF := Lib.hid (fresh_calls (fun k => W ≤ k) w (fun k hk => by omega))
  clear hl0 hl1 hq0 hq1 hW
  go_enter Try.func3, Try.ntmps3
  go_wp2_with fail
  refine HF.out.mono ?_
  rintro e w1 ⟨L, D, rfl, h1, k1⟩
  have H1 : Hid (Filled (fun k => W ≤ k) w L D [] 0 w1) := Lib.hid ⟨h1, k1⟩
  clear h1
  go_upto_block 0 with fail
  go_cut [10] (fun i wx => ∃ k : Nat, i = .int .i64 (k : Int) ∧ Hid (TornAt1 (fun k => W ≤ k) w L D ss0 n0 k wx))
  case first =>
    go_wp2_with fail
    go_loopw [10] (fun i wr => ∃ k : Nat, i = .int .i64 (k : Int) ∧ Hid (TornAt1 (fun k => W ≤ k) w L D ss0 n0 k wr)) (fun i _ => n0 - (intOf i).toNat)
    case atStart => exact ⟨0, rfl, Lib.hid ⟨H1.out, Nat.zero_le _, Nat.zero_le _⟩⟩
    case round =>
      obtain ⟨k, rfl, HT⟩ := hrel
      obtain ⟨hF, hk1, hk2⟩ := HT.out
      have hz := hF.2.size
      by_cases hrun : k < n0 ∧ k < 8
      · obtain ⟨hlt, h8⟩ := hrun
        obtain ⟨s, hs⟩ : ∃ s, ss0[k]? = some s := ⟨_, List.getElem?_eq_getElem (by rw [HL0.out]; exact hlt)⟩
        obtain ⟨b, off, hA, hb, hcell⟩ := HQ0.out.2 (by omega)
        subst hA
        have hc := hF.2.cell (hcell k (.string s) (by simp [sv, hs])) (by have := HW.out; simp only; omega)
        have hlen : (fews ss0 k).length = k := fews_length (by rw [HL0.out]; omega)
        have HP := Lib.hid (hF.put (fun k hk => by have := HW.out; omega) (s := few21 s) (m := (k : Int) + 1) (by rw [hlen]; omega) (few21_size s) (by omega) fews_size)
        have HS := Lib.hid hs
        clear hF hcell hs hlen HT
        go_wp2_with fail
        refine (few_calls _ s).mono ?_
        rintro e w2 ⟨rfl, rfl⟩
        go_wp2_with fail
        refine HP.out.mono ?_
        rintro e w3 ⟨rfl, h3⟩
        rw [← fews_snoc HS.out] at h3
        have H3 := Lib.hid h3
        clear h3
        go_wp2_with fail
        go_roundw
        case rel => exact ⟨k + 1, by go_num, Lib.hid ⟨H3.out, by omega, by omega⟩⟩
        case measure => simp [intOf]; omega
      · have hcase : ¬ k < n0 ∨ (k < n0 ∧ ¬ k < 8) := by omega
        clear hF hrun
        rcases hcase with hIn | ⟨hIn, hI8⟩
        all_goals
          go_wp2_with fail
          go_meet
          exact ⟨k, rfl, HT⟩
  case rest =>
    obtain ⟨k0, rfl, HT⟩ := hcut
    obtain ⟨w2, rfl⟩ : ∃ x : World, x = wc := ⟨_, rfl⟩
    obtain ⟨hF, hk1, hk2⟩ := HT.out
    have hlen0 : (fews ss0 k0).length = k0 := fews_length (by rw [HL0.out]; omega)
    obtain ⟨ls, hls⟩ : ∃ ls, fews ss0 k0 = ls := ⟨_, rfl⟩
    have hz0 : ∀ s ∈ ls, s.size ≤ 100 := by rw [← hls]; exact fews_size
    rw [hls] at hF hlen0
    obtain ⟨hF1, hF2⟩ := hF
    have HS := Lib.hid (WSync hF1)
    have HF2 := Lib.hid hF2
    have HLEN0 := Lib.hid hlen0
    have HZ0 := Lib.hid hz0
    clear hF1 hF2 hls hlen0 HT hz0 H1 k1
    go_wp2_with fail
    refine HS.out.mono ?_
    rintro e w3 ⟨rfl, h3, c3⟩
    have a3 := HF2.out.trans c3 (fun _ _ h => h)
    have h3f : Filled (fun k => W ≤ k) w L D ls (eb (puts 1 ls)).length w3 := ⟨h3, a3⟩
    obtain ⟨P, hP⟩ : ∃ P, (eb (puts 1 ls)).length = P := ⟨_, rfl⟩
    have hPle : P ≤ 1000 := by
      have := puts_length_le (f := 1) HZ0.out
      rw [hP, HLEN0.out] at this
      omega
    have HP := Lib.hid hP
    have h3p := h3
    rw [hP] at h3p
    have HSF := Lib.hid (WSafe h3p)
    have H3F := Lib.hid h3f
    clear h3 h3p h3f hP
    go_wp2_with fail
    refine HSF.out.mono ?_
    rintro e w4 ⟨rfl, rfl⟩
    have hNx := WNext H3F.out.1
    rw [show (((pst ls).f + (pst ls).rs.length : Nat) : Int) = (k0 : Int) + 1 by show ((1 + ls.length : Nat) : Int) = _; rw [HLEN0.out]; omega] at hNx
    have HNX := Lib.hid hNx
    clear hNx
    go_wp2_with fail
    refine HNX.out.mono ?_
    rintro e w5 ⟨rfl, q5, rfl⟩
    obtain ⟨w5, hw5⟩ : ∃ w5, w4.drewN q5 = w5 := ⟨_, rfl⟩
    have k5 : Chg (fun _ => False) w4 w5 := by rw [← hw5]; exact (Chg.refl (fun _ => False) w4).drewN q5
    rw [hw5]
    have H5 : Hid (Filled (fun k => W ≤ k) w L D ls (eb (puts 1 ls)).length w5) := Lib.hid ⟨H3F.out.1.keep k5, H3F.out.2.trans k5 (fun _ _ h => h.elim)⟩
    clear hw5 k5 a3 c3
    go_upto_block 2 with fail
    go_cut [13] (fun i wx => ∃ k : Nat, i = .int .i64 (k : Int) ∧ Hid (TornAt2 (fun k => W ≤ k) w L D ls ss1 n1 k wx))
    case first =>
      go_wp2_with fail
      go_loopw [13] (fun i wr => ∃ k : Nat, i = .int .i64 (k : Int) ∧ Hid (TornAt2 (fun k => W ≤ k) w L D ls ss1 n1 k wr)) (fun i _ => n1 - (intOf i).toNat)
      case atStart => exact ⟨0, rfl, Lib.hid ⟨by rw [fews_zero, List.append_nil]; exact H5.out, Nat.zero_le _, Nat.zero_le _⟩⟩
      case round =>
        obtain ⟨k, rfl, HT⟩ := hrel
        obtain ⟨hF, hk1', hk2'⟩ := HT.out
        have hz := hF.2.size
        by_cases hrun : k < n1 ∧ k < 8
        · obtain ⟨hlt, h8⟩ := hrun
          obtain ⟨s, hs⟩ : ∃ s, ss1[k]? = some s := ⟨_, List.getElem?_eq_getElem (by rw [HL1.out]; exact hlt)⟩
          obtain ⟨b, off, hA, hb, hcell⟩ := HQ1.out.2 (by omega)
          subst hA
          have hc := hF.2.cell (hcell k (.string s) (by simp [sv, hs])) (by have := HW.out; simp only; omega)
          have hlen : (ls ++ fews ss1 k).length = k0 + k := by rw [List.length_append, HLEN0.out, fews_length (by rw [HL1.out]; omega)]
          have HP2 := Lib.hid (hF.put (fun k hk => by have := HW.out; omega) (s := few21 s) (m := (k0 : Int) + 1 + (k : Int)) (by rw [hlen]; omega) (few21_size s) (by omega) (fun x hx => by
            rcases List.mem_append.1 hx with hx | hx
            · exact HZ0.out x hx
            · exact fews_size x hx))
          have HS2 := Lib.hid hs
          clear hF hcell hs hlen HT
          go_wp2_with fail
          refine (few_calls _ s).mono ?_
          rintro e w6 ⟨rfl, rfl⟩
          go_wp2_with fail
          refine HP2.out.mono ?_
          rintro e w7 ⟨rfl, h7⟩
          rw [List.append_assoc, ← fews_snoc HS2.out] at h7
          have H7 := Lib.hid h7
          clear h7
          go_wp2_with fail
          go_roundw
          case rel => exact ⟨k + 1, by go_num, Lib.hid ⟨H7.out, by omega, by omega⟩⟩
          case measure => simp [intOf]; omega
        · have hcase : ¬ k < n1 ∨ (k < n1 ∧ ¬ k < 8) := by omega
          clear hF hrun
          rcases hcase with hIn | ⟨hIn, hI8⟩
          all_goals
            go_wp2_with fail
            go_meet
            exact ⟨k, rfl, HT⟩
    case rest =>
      obtain ⟨kk, rfl, HT⟩ := hcut
      obtain ⟨w6, rfl⟩ : ∃ x : World, x = wc := ⟨_, rfl⟩
      obtain ⟨hF, hk1', hk2'⟩ := HT.out
      have hlen1 : (ls ++ fews ss1 kk).length = k0 + kk := by rw [List.length_append, HLEN0.out, fews_length (by rw [HL1.out]; omega)]
      have hz1 : ∀ s ∈ ls ++ fews ss1 kk, s.size ≤ 100 := fun x hx => by
        rcases List.mem_append.1 hx with hx | hx
        · exact HZ0.out x hx
        · exact fews_size x hx
      have htl : (ls ++ fews ss1 kk).take k0 = ls := List.take_left' HLEN0.out
      obtain ⟨qs, hqs⟩ : ∃ qs, ls ++ fews ss1 kk = qs := ⟨_, rfl⟩
      rw [hqs] at hF hlen1 hz1 htl
      obtain ⟨hF1, hF2⟩ := hF
      obtain ⟨Z, hZ⟩ : ∃ Z, (eb (puts 1 qs)).length = Z := ⟨_, rfl⟩
      have hPZ := hF1.safeLe.1
      rw [HP.out, hZ] at hPZ
      have hZle : Z ≤ 3000 := by
        have := puts_length_le (f := 1) hz1
        rw [hZ, hlen1] at this
        omega
      have hBy := WBytes hF1
      rw [hZ] at hBy
      have HBY := Lib.hid hBy
      have HF1 := Lib.hid hF1
      have HF2' := Lib.hid hF2
      have HZZ := Lib.hid hZ
      have HTL := Lib.hid htl
      have HLEN1 := Lib.hid hlen1
      have HZ1 := Lib.hid hz1
      clear hF1 hF2 hBy hZ htl hlen1 hz1 hqs HT H5 H3F
      go_wp2_with fail
      refine HBY.out.mono ?_
      rintro e w7 ⟨o7, A7, c7, rfl, hO7, hn7, ch7⟩
      have hfit7 := hO7.fits
      have hcap7 := hO7.capMax
      go_wp2_with fail
      refine (New_calls w7).mono ?_
      rintro e w8 ⟨rfl, hd8, ch8⟩
      obtain ⟨E, hE⟩ : ∃ E, w7.heap.size = E := ⟨_, rfl⟩
      rw [hE] at hd8 ⊢
      have hO8 := hO7.chg ch8 (fun _ _ h => h)
      have k8 := ch7.trans ch8 (fun _ _ h => h)
      have HF8 := Lib.hid (((HF1.out.keep ch7).mono (V' := fun k => W ≤ k ∧ k < E) (fun k hk h => ⟨h, by omega⟩)).keep ch8)
      have a8 := HF2'.out.trans k8 (fun _ _ h => h.elim)
      have hz7 := ch7.size
      have hz8 := ch8.size
      have hEW : W ≤ E := by have := HF2'.out.size; have := HW.out; omega
      have H8 := Lib.hid hd8
      have HO8 := Lib.hid hO8
      have HE := Lib.hid hE
      have hPZi : ¬ (Z : Int) < (P : Int) := by omega
      have hZP : (0 : Int) ≤ (Z : Int) - (P : Int) := by omega
      clear hd8 hO8 hO7 ch7 k8 hn7 hE HF1
      go_wp2_with fail
      refine (Within_calls keep ((Z : Int) - (P : Int)) _ hZP (by omega) hkeep.1 hkeep.2).mono ?_
      rintro e w9 ⟨r, hr, rfl, rfl⟩
      obtain ⟨C, hC⟩ : ∃ C : Nat, P + r = C := ⟨_, rfl⟩
      have hCi : (P : Int) + (r : Int) = (C : Int) := by omega
      have hCZ : C ≤ Z := by omega
      have hC0 : (0 : Int) ≤ (C : Int) := by omega
      have hC1 : (C : Int) ≤ (c7 : Int) := by omega
      have hx9 := HO8.out.cs.take (k := C) (by omega)
      rw [← bv_take] at hx9
      have HAP := Lib.hid (Append_ok (c := c7) H8.out hx9 (by simp; omega))
      have HCI := Lib.hid hC
      clear hx9
      go_wp2_with fail
      refine HAP.out.mono ?_
      rintro e w10 ⟨o10, rfl, hd10, hor10, ch10⟩
      rw [List.nil_append] at hd10
      have hz10 := ch10.size
      have hsz1 : ∀ e ∈ puts 1 qs, e.size ≤ 65536 := puts_sizes fun s hs => by have := HZ1.out s hs; omega
      have hda : DAt (fun k => E ≤ k) w10 E ((eb (puts 1 qs)).take C) 0 := ⟨Nat.le_refl _, o10, fun g hg => by
        rcases hor10 with h0 | h0
        · rw [h0] at hg; cases hg
        · have := h0 g hg; have := HE.out; omega, hd10⟩
      obtain ⟨j, hj, rest, hsc⟩ := cut_ents (puts 1 qs) C hsz1 (by rw [HZZ.out]; exact hCZ)
      rw [puts_length, HLEN1.out] at hj
      have hij := cut_behind (i := k0) hsz1 (by rw [puts_length, HLEN1.out]; omega) (by rw [puts_take, HTL.out, HP.out]; have := HCI.out; omega) hsc (by rw [puts_length, HLEN1.out]; exact hj)
      rw [puts_take] at hsc
      have HOP := Lib.hid (WOpen (es := puts 1 (qs.take j)) hda (fun k hk => by have := HE.out; omega) hsc (puts_sizes fun s hs => by have := HZ1.out s (List.mem_of_mem_take hs); omega) (pst_puts _))
      have a10 := a8.trans ch10 (fun i hi h => h.elim (fun e => by rw [e]; exact hEW) (fun e => by cases e))
      have HX10 := Lib.hid (HF8.out.chg ch10 (fun k hk h1 h2 => h2.elim (fun e => by omega) (fun e => by cases e)))
      clear hda hsc hd10 hsz1
      go_wp2_with fail
      refine HOP.out.mono ?_
      rintro e w11 ⟨L2, rfl, h11, hL2, ch11⟩
      have hjl : (qs.take j).length = j := by rw [List.length_take, HLEN1.out]; omega
      have h3 : TornAt3 W E w L D L2 qs (puts 1 qs) (eb (puts 1 ls)).length (qs.take j) (puts 1 (qs.take j)) (oSafe rest 0 (puts 1 (qs.take j))) w11 :=
        ⟨HX10.out.chg ch11 (fun k hk h1 h2 => by omega), h11, a10.trans ch11 (fun i hi h => by omega)⟩
      obtain ⟨R, hR⟩ : ∃ R : World → Prop, TornAt3 W E w L D L2 qs (puts 1 qs) (eb (puts 1 ls)).length (qs.take j) (puts 1 (qs.take j)) (oSafe rest 0 (puts 1 (qs.take j))) = R := ⟨_, rfl⟩
      have HRR := Lib.hid hR
      have hRd : ∀ w' q, R w' → R (w'.drewN q) := fun w' q h => by rw [← HRR.out] at h ⊢; exact h.drewN q
      have HRD := Lib.hid hRd
      have hFI : ∀ w' : World, R w' → Calls Try.prog 21 #[.pointer (some ⟨L2, 0, none⟩)] w' (fun e w'' => e = .returned (.int .i64 1) ∧ w' = w'') := fun w' h => by
        rw [← HRR.out] at h
        exact WFirst h.2.1
      have HFI := Lib.hid hFI
      have HJL := Lib.hid hjl
      have hy1 : ∀ w' : World, R w' → Calls Try.prog 15 #[.pointer (some ⟨L2, 0, none⟩)] w' (Told (.int .i64 ((j : Int) + 1)) w') := fun w' h => by
        rw [← HRR.out] at h
        have := WNext h.2.1
        rwa [show (((pst (qs.take j)).f + (pst (qs.take j)).rs.length : Nat) : Int) = (j : Int) + 1 by show ((1 + (qs.take j).length : Nat) : Int) = _; rw [HJL.out]; omega] at this
      have HY1 := Lib.hid hy1
      obtain ⟨m, hm⟩ : ∃ m, k0 + kk = m := ⟨_, rfl⟩
      have hx1 : ∀ w' : World, R w' → Calls Try.prog 15 #[.pointer (some ⟨L, 0, none⟩)] w' (Told (.int .i64 ((m : Int) + 1)) w') := fun w' h => by
        rw [← HRR.out] at h
        have := WNext h.1
        rwa [show (((pst qs).f + (pst qs).rs.length : Nat) : Int) = (m : Int) + 1 by show ((1 + qs.length : Nat) : Int) = _; rw [HLEN1.out]; omega] at this
      have HX1 := Lib.hid hx1
      have hgy : ∀ (w' : World) (i : Nat) (s : ByteArray), R w' → 1 ≤ i → i ≤ j → qs[i - 1]? = some s → Calls Try.prog 22 #[.pointer (some ⟨L2, 0, none⟩), .int .i64 (i : Int)] w' (Told (.tuple #[.string s, .bool true]) w') := fun w' i s h h1 hi hs => by
        rw [← HRR.out] at h
        exact WGet_in h.2.1 (k := i - 1) (by show ((1 + (i - 1) : Nat) : Int) = _; omega) (by show (qs.take j)[i - 1]? = _; rw [List.getElem?_take, if_pos (by omega)]; exact hs)
      have HGY := Lib.hid hgy
      have hgx : ∀ (w' : World) (i : Nat) (s : ByteArray), R w' → 1 ≤ i → qs[i - 1]? = some s → Calls Try.prog 22 #[.pointer (some ⟨L, 0, none⟩), .int .i64 (i : Int)] w' (Told (.tuple #[.string s, .bool true]) w') := fun w' i s h h1 hs => by
        rw [← HRR.out] at h
        exact WGet_in h.1 (k := i - 1) (by show ((1 + (i - 1) : Nat) : Int) = _; omega) hs
      have HGX := Lib.hid hgx
      have hend : ∀ w', R w' → Chg (fun k => W ≤ k) w w' := fun w' h => by rw [← HRR.out] at h; exact h.2.2
      have HEND := Lib.hid hend
      rw [hR] at h3
      have gj1 : decide (j < k0) = false := decide_eq_false (by omega)
      have gj2 : decide (m < j) = false := decide_eq_false (by omega)
      have H3 := Lib.hid h3
      clear h3 hR hRd hFI hy1 hx1 hgy hgx hend h11 HOP HX10 hjl a10 ch11 ch10
      go_wp2_with fail
      refine (HFI.out _ H3.out).mono ?_
      rintro e w12 ⟨rfl, rfl⟩
      go_wp2_with fail
      refine (HY1.out _ H3.out).mono ?_
      rintro e w13 ⟨rfl, q13, rfl⟩
      go_wp2_with fail
      refine (HY1.out _ (HRD.out _ _ H3.out)).mono ?_
      rintro e w14 ⟨rfl, q14, rfl⟩
      go_wp2_with fail
      refine (HX1.out _ (HRD.out _ _ H3.out)).mono ?_
      rintro e w15 ⟨rfl, q15, rfl⟩
      go_wp2_with fail
      have H5 := Lib.hid (HRD.out _ (q13 + q14 + q15) H3.out)
      obtain ⟨w16, hw16⟩ : ∃ x, w11.drewN (q13 + q14 + q15) = x := ⟨_, rfl⟩
      rw [hw16] at H5 ⊢
      clear hw16
      go_loopw [19] (fun i wr => ∃ k : Nat, i = .int .i64 (k : Int) ∧ 1 ≤ k ∧ k ≤ j + 1 ∧ Hid (R wr)) (fun i _ => j + 1 - (intOf i).toNat)
      case atStart => exact ⟨1, rfl, Nat.le_refl _, by omega, H5⟩
      case round =>
        obtain ⟨k, rfl, hk1, hkj, HR⟩ := hrel
        obtain ⟨w0, rfl⟩ : ∃ x : World, x = wr := ⟨_, rfl⟩
        by_cases hlt : k < j + 1
        · have hlti : (k : Int) < (j : Int) + 1 := by omega
          obtain ⟨s, hs⟩ : ∃ s, qs[k - 1]? = some s := ⟨_, List.getElem?_eq_getElem (by rw [HLEN1.out]; omega)⟩
          have HS := Lib.hid hs
          clear hs
          go_wp2_with fail
          refine (HY1.out _ HR.out).mono ?_
          rintro e w17 ⟨rfl, q17, rfl⟩
          go_wp2_with fail
          refine (HGY.out _ k s (HRD.out _ _ HR.out) hk1 (by omega) HS.out).mono ?_
          rintro e w18 ⟨rfl, q18, rfl⟩
          go_wp2_with fail
          refine (HGX.out _ k s (HRD.out _ _ HR.out) hk1 HS.out).mono ?_
          rintro e w19 ⟨rfl, q19, rfl⟩
          go_wp2_with fail
          go_roundw
          case rel => first | exact ⟨k + 1, by go_num, by omega, by omega, Lib.hid (HRD.out _ _ HR.out)⟩ | ((repeat apply Exists.intro); exact ⟨⟨k + 1, by go_num, by omega, by omega, Lib.hid (HRD.out _ _ HR.out)⟩, rfl⟩)
          case measure => simp [intOf]; omega
        · have hlti : ¬ (k : Int) < (j : Int) + 1 := by omega
          go_wp2_with fail
          refine (HY1.out _ HR.out).mono ?_
          rintro e w17 ⟨rfl, q17, rfl⟩
          go_wp2_with fail
          refine (known_calls _).mono ?_
          rintro e w18 ⟨rfl, hc18⟩
          go_wp2_with fail
          go_ret
          exact ⟨rfl, (((HEND.out _ HR.out).drewN q17).trans hc18 (fun _ _ h => h.elim)).new fun k hk h => by have := HW.out; omega⟩
end Go.Proofs.Ytlnjadnddldjeaa
