/-
  Contract of package wal's Open, where all records say something.
-/
import Derived.Test.YtlnjadnddldjeaaLog11
namespace Go.Proofs.Ytlnjadnddldjeaa
open Go.RowKit
set_option linter.unusedVariables false
set_option linter.unusedSimpArgs false

theorem SlsAt.chgT {T : Nat → Prop} {D : Nat} {w w' : World} {vs : List Value} {rs : List (List UInt8)} (h : SlsAt D w vs rs) (hc : Chg T w w') (hT : ∀ k cur, w.heap[k]? = some (.cells cur 5 (0, 0)) → ¬ T k) : SlsAt D w' vs rs :=
  ⟨h.1, fun i r hr => by
    obtain ⟨o, A, c, h1, h2, h3⟩ := h.2 i r hr
    refine ⟨o, A, c, h1, h2.chg hc (fun k hk => ?_), h3⟩
    obtain ⟨cur, hb⟩ := h2.block hk
    exact hT k cur hb⟩
theorem Own.chgT {T : Nat → Prop} {e : TypeId} {w w' : World} {own : Option Nat} {A : Option Addr} {n cap : Nat} {xs : List Value} (h : Own w e own A n cap xs) (hc : Chg T w w') (hT : ∀ k cur, w.heap[k]? = some (.cells cur e (0, 0)) → ¬ T k) : Own w' e own A n cap xs :=
  h.chg hc fun k hk => by
    obtain ⟨cur, hb⟩ := h.block hk
    exact hT k cur hb
/-- blocks of another type are not those of a log -/
theorem LogAt.other {w : World} {L D f : Nat} {own : Option Nat} {rs : List ByteArray} {snap note : ByteArray} (h : LogAt w L D own f rs snap note) {e : TypeId} (he1 : e ≠ 62) (he2 : e ≠ 9) :
    ∀ k cur, w.heap[k]? = some (.cells cur e (0, 0)) → ¬ (k = L ∨ own = some k) := by
  obtain ⟨h1, h2, A, cap, hh, hO⟩ := h
  intro k cur hk hh'
  rcases hh' with rfl | ho
  · rw [hh] at hk
    injection hk with hk
    injection hk with _ hk _
    exact he1 hk.symm
  · obtain ⟨cur', hb⟩ := hO.block ho
    rw [hk] at hb
    injection hb with hb
    injection hb with _ hb _
    exact he2 hb
/-- what is safe behind an Open -/
def oSafe (rest : List UInt8) (safe : Nat) (es : List Ent) : Nat := if rest = [] then safe else (eb es).length
/-- what Open leaves -/
def OpenedLog (w : World) (D : Nat) (dOwn : Option Nat) (es : List Ent) (safe : Nat) (t : LSt) (e : Ending) (w' : World) : Prop :=
  ∃ L own' dOwn', e = .returned (.tuple #[.pointer (some ⟨L, 0, none⟩), .int .i64 0]) ∧ w.heap.size ≤ L ∧ LogAt w' L D own' t.f t.rs t.snap t.note ∧ (∀ g, own' = some g → w.heap.size ≤ g) ∧ DiskAt w' D dOwn' (eb es) safe ∧
    (dOwn' = dOwn ∨ ∀ g, dOwn' = some g → w.heap.size ≤ g) ∧ Chg (fun k => k = D) w w'
/-- where Open stands at its label: k records are behind it -/
def OpenAt (w : World) (D : Nat) (bs : List UInt8) (es : List Ent) (a : Act) (wr : World) : Prop :=
  ∃ (k L : Nat) (A4 A5 : Option Addr) (c4 c5 : Nat) (t : LSt) (own o4 o5 : Option Nat) (vs : List Value) (x1 x2 x3 x9 x10 x11 x12 x13 x14 x15 x16 x17 x18 x19 x20 x21 x22 x23 x24 x25 x26 x27 x28 x29 x30 x31 x32 x33 x34 x35 x36 x37 x38 x39 x40 x41 x42 x43 x44 x45 x46 x47 x48 x49 x50 x51 x52 x53 x54 x55 x56 x57 x58 x59 x60 x61 x62 x63 : Value),
    a = { tmps := #[.pointer (some ⟨D, 0, none⟩), x1, x2, x3, .slice A4 bs.length c4, .slice A5 es.length c5, .int .i64 (((eb es).length : Nat) : Int), .pointer (some ⟨L, 0, none⟩), .int .i64 (k : Int), x9, x10, x11, x12, x13, x14, x15, x16, x17, x18, x19, x20, x21, x22, x23, x24, x25, x26, x27, x28, x29, x30, x31, x32, x33, x34, x35, x36, x37, x38, x39, x40, x41, x42, x43, x44, x45, x46, x47, x48, x49, x50, x51, x52, x53, x54, x55, x56, x57, x58, x59, x60, x61, x62, x63], defers := [] } ∧
    k ≤ es.length ∧ es.length ≤ c5 ∧ c5 ≤ 9223372036854775807 ∧ Hid (rdos init21 (es.take k) = some t) ∧ LogAt wr L D own t.f t.rs t.snap t.note ∧ w.heap.size ≤ L ∧ Hid (∀ g, own = some g → w.heap.size ≤ g) ∧
    Own wr 5 o4 A4 bs.length c4 (bv bs) ∧ Own wr 31 o5 A5 es.length c5 vs ∧ SlsAt w.heap.size wr vs (bases es) ∧ Chg (fun _ => False) w wr

set_option maxRecDepth 100000 in
set_option maxHeartbeats 4000000 in
theorem Open_log {w : World} {D : Nat} {dOwn : Option Nat} {bs rest : List UInt8} {es : List Ent} {safe : Nat} {t : LSt} (hd : DiskAt w D dOwn bs safe) (hsc : Scanned bs (bases es) rest) (hes : ∀ e ∈ es, e.size ≤ 65536) (hr : rdos init21 es = some t) :
    Calls Try.prog 20 #[.pointer (some ⟨D, 0, none⟩)] w (OpenedLog w D dOwn es (oSafe rest safe es) t) := by
  have hbs : bs = eb es ++ rest := hsc.1
  have hbl : bs.length ≤ 4194304 := hd.2.1
  have hel : es.length * 12 ≤ (eb es).length := by have := fframes_ge (bases es); rwa [bases_length] at this
  have hbe : bs.length = (eb es).length + rest.length := by rw [hbs, List.length_append]
  have HBS := Lib.hid hbs
  have HBE := Lib.hid hbe
  have HEL := Lib.hid hel
  have HSC := Lib.hid hsc
  have HES := Lib.hid hes
  have HR := Lib.hid hr
  have HB := Lib.hid (Bytes_calls hd)
  clear hbs hsc hes hr hbe hel
  go_enter Try.func20, Try.ntmps20
  go_wp2_with fail
  refine wp_scope_once 1 (OpenAt w D bs es) (fun a' _ => es.length - (intOf (a'.tmps.getD 8 undef)).toNat) rfl ?_ ?_
  · rintro a w1 ⟨k, L, A4, A5, c4, c5, t1, own, o4, o5, vs, x1, x2, x3, x9, x10, x11, x12, x13, x14, x15, x16, x17, x18, x19, x20, x21, x22, x23, x24, x25, x26, x27, x28, x29, x30, x31, x32, x33, x34, x35, x36, x37, x38, x39, x40, x41, x42, x43, x44, x45, x46, x47, x48, x49, x50, x51, x52, x53, x54, x55, x56, x57, x58, x59, x60, x61, x62, x63, rfl, hk, hc5, hcm, HT, hl, hL, HOW, hO4, hO5, hV, a1⟩
    by_cases hlt : k < es.length
    · have hkb : k < (bases es).length := by rw [bases_length]; exact hlt
      obtain ⟨o, A, c, hvk, hOk, hon⟩ := hV.2 k es[k].bytes (by simp [bases, hlt])
      obtain ⟨g5, hg5, rfl, hc5k, -⟩ := hO5.cells hvk
      have hlen := Ent.bytes_length es[k]
      obtain ⟨XL, hXL⟩ : ∃ x, (es[k].bytes).length = x := ⟨_, rfl⟩
      rw [hXL] at hOk hc5k hlen
      have HXL := Lib.hid hXL
      clear hXL
      have hsz : es[k].size ≤ 65536 := HES.out _ (List.getElem_mem hlt)
      obtain ⟨t3, ht3, ht4⟩ := rdos_at HR.out hlt HT.out
      have hlen3 := rdos_len HT.out
      rw [List.length_take] at hlen3
      have hl1 : t1.rs.length < 1000000 := by
        have e0 : init21.rs.length = 0 := rfl
        have := HEL.out; have := HBE.out; omega
      have HRC := Lib.hid (recall_calls (c := c) hl hOk.cs (fun i hi => hOk.lt hi) hOk.fits hOk.capMax (by omega) ht3 hl1)
      have HT4 := Lib.hid ht4
      have hlti : (k : Int) < (es.length : Int) := by omega
      clear hvk hkb hlen hsz ht3 ht4 hlen3 hl1 hg5
      go_wp2_with fail
      (with_reducible refine HRC.out.mono ?_)
      rintro e w2 ⟨own2, rfl, hl2, hor2, hc2⟩
      have hkn : (k : Int) + 1 = ((k + 1 : Nat) : Int) := by omega
      have z1 := a1.size
      have hO4' := hO4.chgT hc2 (hl.other (by decide) (by decide))
      have hO5' := hO5.chgT hc2 (hl.other (by decide) (by decide))
      have hV' := hV.chgT hc2 (hl.other (by decide) (by decide))
      have a2 : Chg (fun _ => False) w w2 := ((a1.wide (T := fun k => w.heap.size ≤ k)).trans hc2 (fun i _ e => e.elim (fun e => by rw [e]; exact hL) (fun e => HOW.out i e))).new (fun i hi h => by omega)
      have HKN := Lib.hid hkn
      clear hkn
      clear hO4 hO5 hV hc5k
      go_wp2_with fail
      go_step3
      refine ⟨rfl, ⟨k + 1, L, A4, _, c4, c5, t3, own2, o4, o5, vs, _, _, _, _, _, _, _, _, _, _, _, _, _, _, _, _, _, _, _, _, _, _, _, _, _, _, _, _, _, _, _, _, _, _, _, _, _, _, _, _, _, _, _, _, _, _, _, _, _, _, _, _, _, _, _, _, _, _, by first | rfl | (rw [← HKN.out]), by omega, hc5, hcm, HT4, hl2, hL, Lib.hid (fun g hg => by
        rcases hor2 with h0 | h0
        · exact HOW.out g (by rw [← h0, hg])
        · have := h0 g hg; omega), hO4', hO5', hV', a2⟩, ?_⟩
      simp [intOf]; omega
    · have hke : k = es.length := by omega
      subst hke
      have hT1 : t1 = t := by
        have h1 := HT.out
        have h2 := HR.out
        rw [List.take_length] at h1
        rw [h1] at h2
        injection h2
      subst hT1
      have hd1 := hd.chg a1 (fun h => h) (fun _ _ h => h)
      by_cases hrr : rest = []
      · have hr0 : rest.length = 0 := by rw [hrr]; rfl
        have hnn : ¬ (((eb es).length : Nat) : Int) < (bs.length : Int) := by have := HBE.out; omega
        have hbs2 : bs = eb es := by rw [HBS.out, hrr, List.append_nil]
        have HBS2 := Lib.hid hbs2
        have HRR := Lib.hid hrr
        clear hbs2 hrr hr0
        go_wp2_with fail
        go_step3
        go_wp2_with fail
        simp only [Exit.jump]
        go_ret2
        rw [show oSafe rest safe es = safe from if_pos HRR.out]
        exact ⟨L, own, dOwn, rfl, hL, hl, HOW.out, by rw [← HBS2.out]; exact hd1, .inl rfl, a1.wide⟩
      · have hr0 : 0 < rest.length := List.length_pos_iff.2 hrr
        have hnn : (((eb es).length : Nat) : Int) < (bs.length : Int) := by have := HBE.out; omega
        have hfit := hO4.fits
        have hcs := hO4.cs.take (k := (eb es).length) (by have := HBE.out; omega)
        rw [← bv_take] at hcs
        have htk : bs.take (eb es).length = eb es := by rw [HBS.out, List.take_left']; rfl
        rw [htk] at hcs
        have HSW := Lib.hid (Swap_ok (c := c4) hd1 hcs (by have := HBE.out; omega))
        have hi0 : (((eb es).length : Nat) : Int) ≤ (c4 : Int) := by have := HBE.out; omega
        have hap := log_apart hl hd1
        have HAP := Lib.hid hap
        have HRR := Lib.hid hrr
        clear hrr hr0 htk hcs hap
        go_wp2_with fail
        go_step3
        go_wp2_with fail
        (with_reducible refine HSW.out.mono ?_)
        rintro e w3 ⟨o3, rfl, hd3, hn3, hc3⟩
        have z1 := a1.size
        go_wp2_with fail
        simp only [Exit.jump]
        go_ret2
        rw [show oSafe rest safe es = (eb es).length from if_neg HRR.out]
        exact ⟨L, own, o3, rfl, hL, hl.chg hc3 (fun e => HAP.out.1 e) (fun i hi e => (HAP.out.2.2 i hi).2.1 e), HOW.out, hd3, .inr (fun g hg => by have := hn3 g hg; omega), (a1.wide (T := fun k => k = D)).trans hc3 (fun _ _ h => h)⟩
  · intro H
    go_wp2_with fail
    (with_reducible refine HB.out.mono ?_)
    rintro e w1 ⟨o4, A4, c4, rfl, hO4, hn4, hc1⟩
    have hd1 := hd.chg hc1 (fun h => h) (fun _ _ h => h)
    have HS := Lib.hid (Scan_calls (c := c4) hO4.cs (fun i hi => hO4.lt hi) (by omega) hO4.fits hO4.capMax)
    go_wp2_with fail
    (with_reducible refine HS.out.mono ?_)
    rintro e w2 ⟨rs', rest', o5, A5, c5, vs, rfl, hsc', hO5, hn5, hV, hc2⟩
    obtain ⟨e1, e2⟩ := Scanned.unique hsc' HSC.out
    subst e1
    rw [bases_length] at hO5 ⊢
    have z1 := hc1.size
    have hO4' := hO4.chg hc2 (fun _ _ h => h)
    have a2 : Chg (fun _ => False) w w2 := hc1.trans hc2 (fun _ _ h => h)
    have hf5 := hO5.fits
    have hm5 := hO5.capMax
    clear hsc' e2 HS hO4 HB
    have HO4 := Lib.hid hO4'
    have HO5 := Lib.hid hO5
    have HV := Lib.hid hV
    clear hO4' hO5 hV
    have ka := (Chg.refl (fun _ => False) w2).alloc (.cells #[.pointer (some ⟨D, 0, none⟩), .int .i64 1, .slice none 0 0, .string ⟨#[]⟩, .string ⟨#[]⟩] 62)
    have hla : LogAt (w2.alloc (.cells #[.pointer (some ⟨D, 0, none⟩), .int .i64 1, .slice none 0 0, .string ⟨#[]⟩, .string ⟨#[]⟩] 62)) w2.heap.size D none init21.f init21.rs init21.snap init21.note :=
      ⟨by decide, by decide, none, 0, heap_alloc_new w2 _, Own.nil_ _ _ _⟩
    have HLA := Lib.hid hla
    have z2 := a2.size
    clear hla
    go_wp2_with fail
    go_step3
    rename_i hK
    refine hK _ _ (H.out _ _ ⟨0, w2.heap.size, A4, A5, c4, c5, init21, none, o4, o5, vs, _, _, _, _, _, _, _, _, _, _, _, _, _, _, _, _, _, _, _, _, _, _, _, _, _, _, _, _, _, _, _, _, _, _, _, _, _, _, _, _, _, _, _, _, _, _, _, _, _, _, _, _, _, _, _, _, _, _, rfl, Nat.zero_le _, hf5, hm5, Lib.hid rfl, HLA.out, z2, Lib.hid (fun g hg => by cases hg), HO4.out.chg ka (fun _ _ h => h), HO5.out.chg ka (fun _ _ h => h), ?_, a2.trans ka (fun _ _ h => h)⟩)
    have hv2 := HV.out.keep ka
    exact ⟨hv2.1, fun i r hr => by
      obtain ⟨o, A, c, q1, q2, q3⟩ := hv2.2 i r hr
      exact ⟨o, A, c, q1, q2, fun g hg => by have := q3 g hg; omega⟩⟩
end Go.Proofs.Ytlnjadnddldjeaa
