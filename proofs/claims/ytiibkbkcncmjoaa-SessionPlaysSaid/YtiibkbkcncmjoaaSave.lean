/-
  Contracts of package session's put, get, Save.
-/
import Derived.Test.YtiibkbkcncmjoaaSaveMath
import Derived.Deep.LoopGhost
namespace Go.Proofs.Ytiibkbkcncmjoaa
open Go.RowKit
set_option linter.unusedVariables false
set_option linter.unusedSimpArgs false

theorem str_extract (l : List UInt8) (a b : Nat) : (str l).extract a b = str ((l.drop a).take (b - a)) := by
  apply ByteArray.ext
  rw [ByteArray.data_extract]
  apply Array.ext'
  simp [str, List.take_drop]
theorem schunks_ge : ∀ (g : Nat) (s : List UInt8), s.length ≤ g → s.length ≤ (schunks g s).length
  | 0, s, h => by omega
  | g + 1, s, h => by
    rw [schunks]
    split
    · rename_i e; rw [e]; exact Nat.zero_le _
    · have ih := schunks_ge g (s.drop 65535) (by rw [List.length_drop]; omega)
      rw [List.length_drop] at ih
      rw [List.length_append, List.length_append, le_length, List.length_take]
      omega
theorem schunks_step {g : Nat} {s : List UInt8} (h : s ≠ []) (hg : s.length ≤ g) : ∃ g', g' < g ∧ (s.drop 65535).length ≤ g' ∧ schunks g s = le 2 (s.take 65535).length ++ (s.take 65535 ++ schunks g' (s.drop 65535)) := by
  have hp := List.length_pos_iff.2 h
  obtain ⟨g', rfl⟩ : ∃ g', g = g' + 1 := ⟨g - 1, by omega⟩
  exact ⟨g', by omega, by rw [List.length_drop]; omega, by rw [schunks, if_neg h]⟩

set_option maxRecDepth 100000 in
set_option maxHeartbeats 2000000 in
theorem put_text {V : Nat → Prop} {w : World} {D : Nat} {bs s : List UInt8} (hd : WrAt V w D bs) (hV : ∀ k, w.heap.size ≤ k → V k) (hroom : bs.length + (sput s).length ≤ 140737488355328) :
    Calls Try.prog 63 #[.pointer (some ⟨D, 0, none⟩), .string (str s)] w (Wrote V w D (bs ++ sput s)) := by
  have hsl := str_toList
  have hssz := str_size
  have hsx := str_extract
  have hge := schunks_ge s.length s (Nat.le_refl _)
  have hu : u64 (s.length : Int) = s.length := by
    rw [sput, List.length_append] at hroom
    unfold u64; omega
  have h8 := WLong_calls hd hV (s.length : Int) (by rw [sput, List.length_append, le_length] at hroom; omega)
  rw [hu] at h8
  have H8 := Lib.hid h8
  have HV := Lib.hid hV
  have HTOT : Hid (bs ++ sput s = bs ++ le 8 s.length ++ schunks s.length s) := Lib.hid (by rw [sput, List.append_assoc])
  have hlen : (bs ++ sput s).length ≤ 140737488355328 := by rw [List.length_append]; exact hroom
  have HLEN := Lib.hid hlen
  clear h8 hV hu hlen hroom hge
  go_enter Try.func63, Try.ntmps63
  go_wp2_with fail
  refine H8.out.mono ?_
  rintro e w1 ⟨rfl, hd1, hc1⟩
  go_wp2_with fail
  go_loopg [1, 4] s.length (fun h v u wx => ∃ (rest bs' : List UInt8), v = .string (str rest) ∧ rest.length ≤ h ∧ Hid (bs ++ sput s = bs' ++ schunks h rest) ∧ WrAt V wx D bs' ∧ Chg V w wx)
  case atStart => exact ⟨s, _, rfl, Nat.le_refl _, HTOT, hd1, hc1⟩
  case round =>
    obtain ⟨rest, bs', rfl, hh, HT, hdr, hcr⟩ := hrel
    by_cases he : rest = []
    · subst he
      go_wp2_with fail
      go_end0
      refine ⟨rfl, ?_, hcr⟩
      rw [HT.out]
      cases gk <;> simpa [schunks] using hdr
    · obtain ⟨g', hg1, hg2, hg3⟩ := schunks_step he hh
      have hpos := List.length_pos_iff.2 he
      have ht := HT.out
      rw [hg3] at ht
      have hlt := HLEN.out
      rw [ht] at hlt
      simp only [List.length_append, le_length] at hlt
      have hsz := hcr.size
      have HG3 := Lib.hid hg3
      have HT2 := Lib.hid ht
      have HE := Lib.hid he
      clear hg3 ht he
      by_cases h6 : 65535 < rest.length
      · have htk : (rest.take 65535).length = 65535 := by rw [List.length_take]; omega
        have HTK := Lib.hid htk
        have hlt' : bs'.length + 65537 ≤ 140737488355328 := by omega
        clear htk hlt
        go_wp2_with fail
        refine (WText_calls hdr (fun k hk => HV.out k (by have := hc1.size; omega)) (str (rest.take 65535)) (by rw [str_size, HTK.out]; omega)).mono ?_
        rw [str_size, show (str (rest.take 65535)).data.toList = rest.take 65535 from rfl]
        rintro e w2 ⟨rfl, hd2, hc2⟩
        go_wp2_with fail
        go_roundg g'
        case measure => exact hg1
        case rel => exact ⟨rest.drop 65535, _, congrArg (fun l => Value.string (str l)) (List.take_of_length_le (by rw [List.length_drop]; exact Nat.le_refl _)), hg2, Lib.hid (by rw [HT2.out]; simp), hd2, hcr.trans hc2 (fun _ _ h => h)⟩
      · have htk : rest.take 65535 = rest := List.take_of_length_le (by omega)
        have hdk : rest.drop 65535 = [] := List.drop_of_length_le (by omega)
        rw [htk] at hlt
        have HTK := Lib.hid htk
        have HDK := Lib.hid hdk
        have hlt' : bs'.length + rest.length + 2 ≤ 140737488355328 := by omega
        clear htk hdk hlt
        go_wp2_with fail
        refine (WText_calls hdr (fun k hk => HV.out k (by have := hc1.size; omega)) (str rest) (by rw [str_size]; omega)).mono ?_
        rw [str_size, show (str rest).data.toList = rest from rfl]
        rintro e w2 ⟨rfl, hd2, hc2⟩
        go_wp2_with fail
        go_roundg g'
        case measure => exact hg1
        case rel => exact ⟨[], _, rfl, Nat.zero_le _, Lib.hid (by rw [HT2.out, HTK.out, HDK.out]; simp), hd2, hcr.trans hc2 (fun _ _ h => h)⟩

theorem grown_own {T : Nat → Prop} {w w4 : World} {own own' : Option Nat} (HN : Hid (∀ k, own = some k → w.heap.size ≤ k)) (hor : own' = own ∨ own' = some w4.heap.size) (hc : Chg T w w4) : ∀ k, own' = some k → w.heap.size ≤ k := fun k hk => by
  have := hc.size
  rcases hor with h0 | h0
  · exact HN.out k (by rw [← h0, hk])
  · rw [h0] at hk; injection hk with hk; omega

theorem Refused_calls {V : Nat → Prop} {w : World} {R : Nat} {l : List UInt8} {s : RS} (hd : RdAt V w R l s) :
    Calls Try.prog 64 #[.pointer (some ⟨R, 0, none⟩)] w fun e w' => e = .returned (.bool (s.y != 0)) ∧ w = w' := by
  obtain ⟨hv, h1, h2, A, cap, hh, ho, hg1, hg2⟩ := hd
  obtain ⟨⟨c0, c1, c2, c3⟩, f0, f1, f2, f3⟩ := four_cells hh
  go_enter Try.func64, Try.ntmps64
  go_wp2_with fail
  go_ret
  exact ⟨rfl, rfl⟩

set_option maxRecDepth 100000 in
set_option maxHeartbeats 2000000 in
theorem get_text {V : Nat → Prop} {w : World} {R : Nat} {l : List UInt8} {s : RS} (hd : RdAt V w R l s) :
    Calls Try.prog 61 #[.pointer (some ⟨R, 0, none⟩)] w (Gave V w R l (.string (str (sget l s).1)) (sget l s).2) := by
  have hsl := str_toList
  have hssz := str_size
  have hd := hd.mono (V' := fun k => V k ∧ k < w.heap.size) (fun k hk hv => ⟨hv, hk⟩)
  have h8 := RLong_calls hd
  have hpos := hd.pos
  have hll := hd.2.2.1
  have hpf := rtake_fwd (n := 8) hpos
  have hRlt := hd.lt
  have HV := hd.inV
  clear hd
  unfold sget
  generalize s64 (num (rtake l 8 s).1) = n at h8 ⊢
  generalize (rtake l 8 s).2 = s1 at h8 hpf ⊢
  obtain ⟨hp1, hp2, -⟩ := hpf
  generalize hT : sgetL l n (l.length + 1) [] s1 = T at *
  have HT := Lib.hid hT
  have H8 := Lib.hid h8
  clear h8 hT hpos
  go_enter Try.func61, Try.ntmps61
  go_wp2_with fail
  refine H8.out.mono ?_
  rintro e w1 ⟨rfl, hd1, hc1⟩
  have hz1 := hc1.size
  go_wp2_with fail
  go_loopg [3, 5] (l.length + 1) (fun g v u wx => ∃ (st : RS) (out : List UInt8) (m : Nat) (own : Option Nat) (X : Option Addr) (cap : Nat), v = .slice X m cap ∧ Own wx 5 own X m cap (bv out) ∧ Hid (out.length = m) ∧ Hid (∀ k, own = some k → w.heap.size ≤ k) ∧ Hid (sgetL l n g out st = T) ∧ Hid (st.y = 0 → l.length - st.p < g) ∧ m ≤ st.p ∧ st.p ≤ l.length ∧ RdAt (fun k => V k ∧ k < w.heap.size) wx R l st ∧ Chg (fun k => k = R) w wx)
  case atStart => exact ⟨s1, [], 0, none, none, 0, rfl, Own.nil_ _ _ _, Lib.hid rfl, Lib.hid (fun k h => by cases h), HT, Lib.hid (fun _ => by omega), Nat.zero_le _, hp1, hd1, hc1⟩
  case round =>
    obtain ⟨st, out, m, own, X, cap, rfl, hown, HM, HN, HS, HG, hmp, hstp, hr, hc⟩ := hrel
    by_cases hrun : (m : Int) < n
    · by_cases hy : st.y = 0
      · have hyb : (st.y != 0) = false := by simp [hy]
        obtain ⟨g', hg1, hg2, hg3, hg4⟩ := sget_round (n := n) (out := out) hstp HG.out ⟨by rw [HM.out]; exact hrun, hy⟩
        obtain ⟨t1, t2, t3, t4, t5⟩ := rtext_cases l 65535 st hstp
        have hx := RText_calls hr 65535
        by_cases hxe : (rtext l 65535 st).1 = []
        · rw [if_pos hxe] at hg2 hg3 hg4
          rw [hxe] at hx hg2 t5
          rw [List.append_nil, HS.out] at hg2
          have HG2 := Lib.hid hg2.symm
          have HG3 := Lib.hid hg3
          clear hg2 hg3 hy t3 t4 hxe
          generalize (rtext l 65535 st).2 = st2 at hx HG2 HG3 hg4 t1 t2 t5
          have HX := Lib.hid hx
          clear hx
          go_wp2_with fail
          refine (Refused_calls hr).mono ?_
          rintro e w2 ⟨rfl, rfl⟩
          go_wp2_with fail
          refine HX.out.mono ?_
          rintro e w3 ⟨rfl, hr3, hc3⟩
          have hown3 := hown.chg hc3 (fun k hk h => by have := HN.out k hk; omega)
          have hc03 := hc.trans hc3 (fun _ _ h => h)
          go_wp2_with fail
          refine (Fail_calls hr3 12).mono ?_
          rintro e w4 ⟨rfl, hr4, hc4⟩
          have hown4 := hown3.chg hc4 (fun k hk h => by have := HN.out k hk; omega)
          have hsrc4 := Src.string (P := Try.prog) (w := w4) (str [])
          rw [bv_of_str, show (str []).data.toList = [] from rfl] at hsrc4
          have hc04 := hc03.trans hc4 (fun _ _ h => h)
          go_wp2_with (at_builtin; refine wpList_append rfl _ _ 22 9 rfl 5 1 stringApp own X m cap _ (bv []) _ rfl rfl hown4 hsrc4 (bv_one _) m ?_ (by omega) (by omega) ?_)
          · rfl
          intro own' A' cap' w5 hown5 hor5 hc5
          have hn5 := grown_own HN hor5 hc04
          go_wp2_with fail
          go_roundg g'
          case measure => exact hg1
          case rel => exact ⟨rfail 12 st2, out, m, own', A', cap', rfl, by simpa [bv] using hown5, HM, Lib.hid hn5, HG2, HG3, by rw [rfail_p]; simp at t5; omega, hg4, hr4.chg hc5 (fun k hk h1 h2 => by have := HN.out k h2; omega), hc04.trans hc5 (fun i hi h => by have := HN.out i h; omega)⟩
        · rw [if_neg hxe] at hg2 hg3 hg4
          have HXE := Lib.hid hxe
          rw [HS.out] at hg2
          have HG2 := Lib.hid hg2.symm
          have HG3 := Lib.hid hg3
          clear hg2 hg3 hy t4 hxe
          generalize (rtext l 65535 st).1 = x at hx HG2 HG3 hg4 t3 t5 HXE
          generalize (rtext l 65535 st).2 = st2 at hx HG2 HG3 hg4 t1 t2 t5
          have HX := Lib.hid hx
          have hxb : (x == []) = false := beq_eq_false_iff_ne.2 HXE.out
          clear hx
          go_wp2_with fail
          refine (Refused_calls hr).mono ?_
          rintro e w2 ⟨rfl, rfl⟩
          go_wp2_with fail
          refine HX.out.mono ?_
          rintro e w3 ⟨rfl, hr3, hc3⟩
          have hown3 := hown.chg hc3 (fun k hk h => by have := HN.out k hk; omega)
          have hc03 := hc.trans hc3 (fun _ _ h => h)
          have hsrc := Src.string (P := Try.prog) (w := w3) (str x)
          rw [bv_of_str, show (str x).data.toList = x from rfl] at hsrc
          go_wp2_with (at_builtin; refine wpList_append rfl _ _ 22 9 rfl 5 1 stringApp own X m cap _ (bv x) _ rfl rfl hown3 hsrc (bv_one _) (m + x.length) ?_ (by omega) (by omega) ?_)
          · rw [bv_length]
          intro own' A' cap' w5 hown5 hor5 hc5
          have hn5 := grown_own HN hor5 hc03
          go_wp2_with fail
          go_roundg g'
          case measure => exact hg1
          case rel => exact ⟨st2, out ++ x, m + x.length, own', A', cap', rfl, by rw [bv_append]; exact hown5, Lib.hid (by rw [List.length_append, HM.out]), Lib.hid hn5, HG2, HG3, by omega, hg4, hr3.chg hc5 (fun k hk h1 h2 => by have := HN.out k h2; omega), hc03.trans hc5 (fun i hi h => by have := HN.out i h; omega)⟩
      · have hyb : (st.y != 0) = true := by simp [hy]
        have hst := sgetL_stop (l := l) (n := n) (g := gk) (out := out) (s := st) (fun h => hy h.2)
        rw [HS.out] at hst
        have HST := Lib.hid hst
        have hcs := hown.cs
        clear hst hown hy
        go_wp2_with fail
        refine (Refused_calls hr).mono ?_
        rintro e w2 ⟨rfl, rfl⟩
        go_wp2_with (refine wpList_string rfl _ _ _ 5 rfl Try.underlying22 Try.underlying5 Try.underlying9 _ X _ cap _ rfl hcs ?_)
        go_wp2_with fail
        go_ret
        rw [HST.out]
        exact ⟨rfl, hr.mono (fun k _ h => h.1), hc⟩
    · have hst := sgetL_stop (l := l) (n := n) (g := gk) (out := out) (s := st) (fun h => hrun (by have := h.1; rwa [HM.out] at this))
      rw [HS.out] at hst
      have HST := Lib.hid hst
      have hcs := hown.cs
      clear hst hown
      go_wp2_with (refine wpList_string rfl _ _ _ 5 rfl Try.underlying22 Try.underlying5 Try.underlying9 _ X _ cap _ rfl hcs ?_)
      go_wp2_with fail
      go_ret
      rw [HST.out]
      exact ⟨rfl, hr.mono (fun k _ h => h.1), hc⟩
end Go.Proofs.Ytiibkbkcncmjoaa
