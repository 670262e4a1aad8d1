/-
  Contract of package frames' Scan.
-/
import Derived.Test.YtlnjadnddldjeaaFrames
namespace Go.Proofs.Ytlnjadnddldjeaa
open Go.RowKit
set_option linter.unusedVariables false
set_option linter.unusedSimpArgs false

theorem slsApp : AppT Try.prog 67 67 31 24 := by
  obtain ⟨i, hi, hz, hs, hb⟩ := info_parts (P := Try.prog) (e := 31) (z := Value.slice none 0 0) (size := 1) (bytes := 24) (by kernel_rfl)
  exact ⟨Try.underlying67, .inl ⟨_, Try.underlying67⟩, i, _, hi, hz, hs, hb, rfl⟩
/-- slices, each with bytes of its own in blocks from D on -/
def SlsAt (D : Nat) (w : World) (vs : List Value) (rs : List (List UInt8)) : Prop :=
  vs.length = rs.length ∧ ∀ (i : Nat) (r : List UInt8), rs[i]? = some r → ∃ (o : Option Nat) (A : Option Addr) (c : Nat), vs[i]? = some (Value.slice A r.length c) ∧ Own w 5 o A r.length c (bv r) ∧ ∀ g, o = some g → D ≤ g
theorem SlsAt.nil (D : Nat) (w : World) : SlsAt D w [] [] := ⟨rfl, fun i r h => by simp at h⟩
theorem SlsAt.keep {D : Nat} {w w' : World} {vs : List Value} {rs : List (List UInt8)} (h : SlsAt D w vs rs) (hc : Chg (fun _ => False) w w') : SlsAt D w' vs rs :=
  ⟨h.1, fun i r hr => by
    obtain ⟨o, A, c, h1, h2, h3⟩ := h.2 i r hr
    exact ⟨o, A, c, h1, h2.chg hc (fun _ _ h => h), h3⟩⟩
theorem Own.block {w : World} {e : TypeId} {own : Option Nat} {A : Option Addr} {n cap : Nat} {xs : List Value} (h : Own w e own A n cap xs) {g : Nat} (hg : own = some g) : ∃ cur, w.heap[g]? = some (.cells cur e (0, 0)) := by
  rcases h.2.2 with ⟨h0, _⟩ | ⟨g', cur, h0, _, hh, _⟩
  · rw [h0] at hg; cases hg
  · rw [h0] at hg; cases hg; exact ⟨cur, hh⟩
theorem SlsAt.app {D : Nat} {w w' : World} {vs : List Value} {rs : List (List UInt8)} {own : Option Nat} {A : Option Addr} {n cap : Nat} {xs : List Value} (h : SlsAt D w vs rs) (hO : Own w 31 own A n cap xs) (hc : Chg (fun k => own = some k) w w') : SlsAt D w' vs rs :=
  ⟨h.1, fun i r hr => by
    obtain ⟨o, A, c, h1, h2, h3⟩ := h.2 i r hr
    refine ⟨o, A, c, h1, h2.chg hc (fun k hk hk' => ?_), h3⟩
    obtain ⟨cur, hh⟩ := h2.block hk
    exact hO.ne_ hh (by decide) hk'⟩
theorem Own.app {w w' : World} {own o : Option Nat} {A A' : Option Addr} {n cap n' c' : Nat} {xs ys : List Value} (h : Own w 5 o A' n' c' ys) (hO : Own w 31 own A n cap xs) (hc : Chg (fun k => own = some k) w w') : Own w' 5 o A' n' c' ys :=
  h.chg hc (fun k hk hk' => by
    obtain ⟨cur, hh⟩ := h.block hk
    exact hO.ne_ hh (by decide) hk')
theorem SlsAt.snoc {D : Nat} {w : World} {vs : List Value} {rs : List (List UInt8)} (h : SlsAt D w vs rs) {r : List UInt8} {o : Option Nat} {A : Option Addr} {c : Nat} (h2 : Own w 5 o A r.length c (bv r)) (h3 : ∀ g, o = some g → D ≤ g) : SlsAt D w (vs ++ [Value.slice A r.length c]) (rs ++ [r]) := by
  refine ⟨by rw [List.length_append, List.length_append, h.1]; rfl, fun i q hq => ?_⟩
  by_cases hi : i < rs.length
  · rw [List.getElem?_append_left hi] at hq
    obtain ⟨o', A', c', h1, h4⟩ := h.2 i q hq
    exact ⟨o', A', c', by rw [List.getElem?_append_left (by rw [h.1]; exact hi)]; exact h1, h4⟩
  · rw [List.getElem?_append_right (by omega)] at hq
    have hi0 : i - rs.length = 0 := by
      have := (List.getElem?_eq_some_iff.1 hq).1
      simp at this; omega
    rw [hi0] at hq
    cases hq
    exact ⟨o, A, c, by rw [List.getElem?_append_right (by rw [h.1]; omega), h.1, hi0]; rfl, h2, h3⟩

/-- what Scan leaves -/
def ScanOut (w : World) (l : List UInt8) (e : Ending) (w' : World) : Prop :=
  ∃ rs rest own A cap vs, e = .returned (.tuple #[.slice A rs.length cap, .int .i64 ((fframes rs).length : Int)]) ∧ Scanned l rs rest ∧ Own w' 31 own A rs.length cap vs ∧ (∀ g, own = some g → w.heap.size ≤ g) ∧ SlsAt w.heap.size w' vs rs ∧ Chg (fun _ => False) w w'

theorem rtake_all {x : List UInt8} (h : x.length = 8) : (rtake x 8 ⟨0, 0, 0⟩).1 = x := by
  rw [rtake_ok rfl (by show ¬ x.length - 0 < 8; omega)]
  show (x.drop 0).take 8 = x
  rw [List.drop_zero, List.take_of_length_le (by omega)]
theorem fframes_ge (rs : List (List UInt8)) : rs.length * 12 ≤ (fframes rs).length := by
  induction rs with
  | nil => simp
  | cons r rs ih => rw [fframes, List.length_append, fframe_length, List.length_cons]; omega

set_option maxRecDepth 100000 in
set_option maxHeartbeats 4000000 in
theorem Scan_calls {w : World} {S : Nat → Prop} {A : Option Addr} {n c : Nat} {l : List UInt8} (h : Cs w S A n (bv l)) (hS : ∀ k, S k → k < w.heap.size) (hm : n ≤ 90000000) (hnc : n ≤ c) (hcm : c ≤ 9223372036854775807) :
    Calls Try.prog 38 #[.slice A n c] w (ScanOut w l) := by
  have hl : l.length = n := by rw [← bv_length]; exact h.1
  have HL := Lib.hid hl
  obtain ⟨D, hD⟩ : ∃ D, w.heap.size = D := ⟨_, rfl⟩
  have HD := Lib.hid hD
  rw [hD] at hS
  have HS := Lib.hid hS
  clear hl hD hS
  go_enter Try.func38, Try.ntmps38
  go_wp2_with fail
  go_loopw [4, 5] (fun o p wr => ∃ (rs : List (List UInt8)) (rest : List UInt8) (own : Option Nat) (A' : Option Addr) (cap N M : Nat) (vs : List Value), o = .slice A' N cap ∧ p = .int .i64 (M : Int) ∧ Hid (rs.length = N) ∧ Hid ((fframes rs).length = M) ∧ Hid (l = fframes rs ++ rest) ∧ Hid (∀ r, r ∈ rs → r.length ≤ 1048572) ∧ Own wr 31 own A' N cap vs ∧ (∀ g, own = some g → D ≤ g) ∧ SlsAt D wr vs rs ∧ Chg (fun k => D ≤ k) w wr) (fun _ p _ => n - (intOf p).toNat)
  case atStart => exact ⟨[], l, none, none, 0, 0, 0, [], rfl, rfl, Lib.hid rfl, Lib.hid rfl, Lib.hid rfl, Lib.hid (by simp), Own.nil_ _ _ _, (fun g h => by cases h), SlsAt.nil _ _, Chg.refl _ _⟩
  case round =>
    obtain ⟨rs, rest, own, A', cap, N, M, vs, rfl, rfl, HN, HM, HE, HR, hO, hOn, hV, a⟩ := hrel
    have hnM : n = M + rest.length := by rw [← HL.out, ← HM.out, HE.out, List.length_append]
    have hdrop : l.drop M = rest := by rw [HE.out]; exact List.drop_left' HM.out
    have HDR := Lib.hid hdrop
    have HNM := Lib.hid hnM
    have hN : N * 12 ≤ M := by rw [← HN.out, ← HM.out]; exact fframes_ge rs
    have hMn : M ≤ n := by omega
    clear hdrop
    obtain ⟨w0, rfl⟩ : ∃ x : World, x = wr := ⟨_, rfl⟩
    by_cases h8 : rest.length < 8
    · have hlt : ¬ (8 : Int) ≤ (n : Int) - (M : Int) := by omega
      clear hnM
      go_wp2_with fail
      go_ret2
      have hf : fone rest = none := by unfold fone; rw [if_pos h8]
      refine ⟨rs, rest, own, A', cap, vs, by rw [HN.out, HM.out]; rfl, ⟨HE.out, hf, HR.out⟩, by rw [HN.out]; exact hO, fun g hg => by have := hOn g hg; have := HD.out; omega, by rw [HD.out]; exact hV, a.new fun k hk h => by have := HD.out; omega⟩
    · have hge : (8 : Int) ≤ (n : Int) - (M : Int) := by omega
      obtain ⟨blk, off, rfl, hb, -⟩ := h.2 (by omega)
      have h0 := h.chg a (fun k hk hs => by have := HS.out k hs; omega)
      have h1 := (h0.drop (k := M) hMn hnc).take (k := 8) (by omega)
      rw [if_neg (by omega), ← bv_drop, ← bv_take, HDR.out] at h1
      obtain ⟨x, hx⟩ : ∃ x, rest.take 8 = x := ⟨_, rfl⟩
      rw [hx] at h1
      have hx8 : x.length = 8 := by rw [← hx, List.length_take]; omega
      have HX := Lib.hid hx
      have HX8 := Lib.hid hx8
      have hM0 : (0 : Int) ≤ (M : Int) := by omega
      have hM1 : (M : Int) ≤ (M : Int) + 8 := by omega
      have hM2 : (M : Int) + 8 ≤ (c : Int) := by omega
      have hcM : ¬ c = M := by omega
      simp only [Option.map_some, add_lit'] at h1
      have hNR := NewReader_calls (c := c - M) (fun k => w0.heap.size ≤ k) h1 (by decide) (fun k hk => hk)
      have HNR := Lib.hid hNR
      clear hx hx8 hnM hNR h0 h1
      go_wp2_with fail
      refine HNR.out.mono ?_
      rintro e w2 ⟨R, rfl, hRE, hR2, hc2⟩
      have hRL := RLong_calls hR2
      rw [rtake_all HX8.out] at hRL
      have HRL := Lib.hid hRL
      have hv64 : num x < 18446744073709551616 := num_lt8 (by have := HX8.out; omega)
      obtain ⟨v, hv⟩ : ∃ v, num x = v := ⟨_, rfl⟩
      rw [hv] at hv64 HRL
      have HV := Lib.hid hv
      clear hRL hv HNR
      obtain ⟨z, hz⟩ : ∃ z, s64 v = z := ⟨_, rfl⟩
      rw [hz] at HRL
      have HZ := Lib.hid hz
      clear hz
      go_wp2_with fail
      refine HRL.out.mono ?_
      rintro e w3 ⟨rfl, -, hc3⟩
      have k3 : Chg (fun _ => False) w0 w3 := ((hc2.wide (T := fun k => w0.heap.size ≤ k)).trans hc3 (fun i _ h => by omega)).new (fun k hk h => by omega)
      have hO := hO.chg k3 (fun _ _ h => h)
      have hV := hV.keep k3
      have a := a.trans k3 (fun _ _ h => h.elim)
      clear hc2 hc3 hR2 HRL k3
      have hrl : rest.length = n - M := by have := HNM.out; omega
      have HRLN := Lib.hid hrl
      by_cases hbig : 1048576 < v ∨ n - M - 8 < v
      · have hf : fone rest = none := by unfold fone; rw [if_neg h8, HX.out, HV.out, HRLN.out, if_pos hbig]
        have hzz : (z < 0) ∨ (¬ z < 0 ∧ 1048576 < z) ∨ (¬ z < 0 ∧ ¬ 1048576 < z ∧ (n : Int) - (M : Int) - 8 < z) := by
          have := HZ.out
          unfold s64 at this
          split at this <;> omega
        clear hrl hbig
        have HF := Lib.hid hf
        clear hf
        rcases hzz with hz1 | ⟨hz1, hz2⟩ | ⟨hz1, hz2, hz3⟩
        all_goals
          go_wp2_with fail
          go_ret2
          exact ⟨rs, rest, own, A', cap, vs, by rw [HN.out, HM.out]; rfl, ⟨HE.out, HF.out, HR.out⟩, by rw [HN.out]; exact hO, fun g hg => by have := hOn g hg; have := HD.out; omega, by rw [HD.out]; exact hV, a.new fun k hk h => by have := HD.out; omega⟩
      · have hzv : z = (v : Int) := by
          rw [← HZ.out]
          unfold s64
          rw [if_pos (by omega)]
        subst hzv
        have hz1 : ¬ (v : Int) < 0 := by omega
        have hz2 : ¬ (1048576 : Int) < (v : Int) := by omega
        have hz3 : ¬ (n : Int) - (M : Int) - 8 < (v : Int) := by omega
        have hf1 : (1048576 < v ∨ n - M - 8 < v) = False := eq_false hbig
        have HBIG := Lib.hid hbig
        have hvn : M + 8 + v ≤ n := by omega
        have hp0 : (0 : Int) ≤ (M : Int) + 8 := by omega
        have hp1 : (M : Int) + 8 ≤ (M : Int) + 8 + (v : Int) := by omega
        have hp2 : (M : Int) + 8 + (v : Int) ≤ (c : Int) := by omega
        have h3 := ((h.chg a (fun k hk hs => by have := HS.out k hs; omega)).drop (k := M + 8) (by omega) hnc).take (k := v) (by omega)
        rw [← bv_drop, ← bv_take, ← List.drop_drop, HDR.out] at h3
        obtain ⟨y, hy⟩ : ∃ y, (rest.drop 8).take v = y := ⟨_, rfl⟩
        rw [hy] at h3
        have HY := Lib.hid hy
        clear hy hf1 hbig hrl
        by_cases hcp : c = M + 8
        · rw [if_pos hcp] at h3
          have hv0 : v ≤ 0 := by omega
          have HO := Lib.hid (Open_calls (c := 0) h3 (by omega) hv0 (by omega))
          clear h3
          go_wp2_with fail
          refine HO.out.mono ?_
          rintro e w4 (⟨hop, o, AO, cO, rfl, hOO, hOn2, hc4⟩ | ⟨hop, rfl, hc4⟩)
          · have hfo : fone rest = some (y.drop 4, 8 + v) := by
              unfold fone
              rw [if_neg h8, HX.out, HV.out, HRLN.out, if_neg HBIG.out, HY.out, if_pos hop]
            obtain ⟨-, f2, -, -⟩ := fone_some hfo
            omega
          · have hf : fone rest = none := by
              unfold fone
              rw [if_neg h8, HX.out, HV.out, HRLN.out, if_neg HBIG.out, HY.out, if_neg (by rw [hop]; decide)]
            have HF := Lib.hid hf
            have hO := hO.chg hc4 (fun _ _ h => h)
            have hV := hV.keep hc4
            have a := a.trans hc4 (fun _ _ h => h.elim)
            clear hf hop
            go_wp2_with fail
            go_ret2
            exact ⟨rs, rest, own, A', cap, vs, by rw [HN.out, HM.out]; rfl, ⟨HE.out, HF.out, HR.out⟩, by rw [HN.out]; exact hO, fun g hg => by have := hOn g hg; have := HD.out; omega, by rw [HD.out]; exact hV, a.new fun k hk h => by have := HD.out; omega⟩
        · rw [if_neg hcp] at h3
          simp only [Option.map_some, add_lit'] at h3
          have HO := Lib.hid (Open_calls (c := c - (M + 8)) h3 (by omega) (by omega) (by omega))
          clear h3
          go_wp2_with fail
          refine HO.out.mono ?_
          rintro e w4 (⟨hop, o, AO, cO, rfl, hOO, hOn2, hc4⟩ | ⟨hop, rfl, hc4⟩)
          · have hfo : fone rest = some (y.drop 4, 8 + v) := by
              unfold fone
              rw [if_neg h8, HX.out, HV.out, HRLN.out, if_neg HBIG.out, HY.out, if_pos hop]
            obtain ⟨f1, f2, f3, f4⟩ := fone_some hfo
            have z3 := a.size
            clear hop hfo
            generalize y.drop 4 = r at f1 f2 f3 hOO
            have hv4 : v - 4 = r.length := by omega
            rw [hv4] at hOO ⊢
            have hO := hO.chg hc4 (fun _ _ h => h)
            have hV := hV.keep hc4
            have a := a.trans hc4 (fun _ _ h => h.elim)
            have z4 := a.size
            have HF1 := Lib.hid f1
            have HF2 := Lib.hid f2
            have HV4 := Lib.hid hv4
            have hvl : M + (8 + v) ≤ n := by omega
            clear f1 f2 hv4
            have ka := (Chg.refl (fun _ => False) w4).alloc (.cells #[.slice AO r.length cO] 31)
            have hOa := hO.chg ka (fun _ _ h => h)
            have hsl := (Own.fresh w4 [.slice AO r.length cO] 31 (by simp)).cs
            go_wp2_with (at_builtin; refine wpList_append rfl _ _ 67 67 rfl 31 24 slsApp own A' N cap vs [.slice AO r.length cO] _ rfl rfl hOa (Src.slice hsl) (by intro u hu; simp at hu; subst hu; rfl) (N + 1) rfl (by omega) (by omega) ?_)
            intro own' A2 cap' w5 hown' hor hchg
            have z5 := ka.size
            go_wp2_with fail
            go_roundw
            case rel =>
              refine ⟨rs ++ [r], rest.drop (8 + v), own', A2, cap', N + 1, M + (8 + v), vs ++ [.slice AO r.length cO], rfl, by go_num, Lib.hid (by rw [List.length_append, HN.out]; rfl), Lib.hid ?_, Lib.hid ?_, Lib.hid ?_, hown', ?_, ((hV.keep ka).app hOa hchg).snoc ((hOO.chg ka (fun _ _ h => h)).app hOa hchg) ?_, (a.alloc _).trans hchg (fun i _ h => hOn i h)⟩
              · rw [fframes_append, fframes_one, List.length_append, HM.out, fframe_length, HF2.out]
              · rw [fframes_append, fframes_one, List.append_assoc, ← HF1.out]; exact HE.out
              · intro q hq
                rcases List.mem_append.1 hq with hq | hq
                · exact HR.out q hq
                · simp at hq; rw [hq]; exact f3
              · intro g hg
                rcases hor with h0 | h0
                · exact hOn g (by rw [← h0, hg])
                · rw [h0] at hg; injection hg with hg; have := HD.out; omega
              · intro g hg
                have := hOn2 g hg; have := HD.out; omega
            case measure => simp [intOf]; omega
          · have hf : fone rest = none := by
              unfold fone
              rw [if_neg h8, HX.out, HV.out, HRLN.out, if_neg HBIG.out, HY.out, if_neg (by rw [hop]; decide)]
            have HF := Lib.hid hf
            have hO := hO.chg hc4 (fun _ _ h => h)
            have hV := hV.keep hc4
            have a := a.trans hc4 (fun _ _ h => h.elim)
            clear hf hop
            go_wp2_with fail
            go_ret2
            exact ⟨rs, rest, own, A', cap, vs, by rw [HN.out, HM.out]; rfl, ⟨HE.out, HF.out, HR.out⟩, by rw [HN.out]; exact hO, fun g hg => by have := hOn g hg; have := HD.out; omega, by rw [HD.out]; exact hV, a.new fun k hk h => by have := HD.out; omega⟩
end Go.Proofs.Ytlnjadnddldjeaa
