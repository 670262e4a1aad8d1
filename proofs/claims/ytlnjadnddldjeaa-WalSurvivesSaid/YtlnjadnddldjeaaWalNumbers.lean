/-
  WalNumbers: chapter 21's runs, and one for each refusal: the walk through the law.
-/
import Derived.Test.YtlnjadnddldjeaaKnown21
namespace Go.Proofs.Ytlnjadnddldjeaa
open Go.RowKit
set_option linter.unusedVariables false
set_option linter.unusedSimpArgs false

def zeros21 (n : Nat) : List UInt8 := List.replicate n 0
theorem zeros21_length (n : Nat) : (zeros21 n).length = n := by simp [zeros21]
theorem bv_zeros21 (n : Nat) : List.replicate n (Value.int .u8 0) = bv (zeros21 n) := by simp [bv, zeros21]
theorem Own.toCs21 {w : World} {own : Option Nat} {A : Option Addr} {n cap m : Nat} (h : Own w 5 own A n cap (List.replicate m (Value.int .u8 0))) : Cs w (fun k => own = some k) A n (bv (zeros21 m)) := by
  rw [← bv_zeros21]
  exact h.cs
theorem wpList_makeZ21 {P : Program} {ops : Array Oper} {rest : List Oper} {o : Oper} {a : Act} {w : World} {Q : Exit → Act → World → Prop} (hgd : o.guard = none) (l c : Operand) (t : TypeId) (ho : o.op = .makeSlice t l c)
    (ht : P.underlying t = some (.slice 5)) (hi0 : (P.info? 5).map (fun i => (i.zero, i.size, i.bytes)) = some (some (.int .u8 0), 1, 1))
    (kl kc : IntKind) (L C : Int) (n : Nat) (hl : a.eval l = .int kl L) (hc : a.eval c = .int kc C) (hL : L = (n : Int)) (hC : C = (n : Int)) (b2 : 1 * n ≤ 281474976710656) (b3 : n ≤ 9223372036854775807)
    (k : ∀ w', Cs w' (fun k => some w.heap.size = some k) (some ⟨w.heap.size, 0, none⟩) n (bv (zeros21 n)) → Chg (fun _ => False) w w' → wpList P ops Q rest (a.put o.dst (.slice (some ⟨w.heap.size, 0, none⟩) n n)) w') :
    wpList P ops Q (o :: rest) a w :=
  wpList_make hgd l c t ho 5 (.int .u8 0) 1 ht hi0 rfl kl kc L C n hl hc hL hC b2 b3 fun w' h1 h2 _ => k w' h1.toCs21 h2

section
variable {V : Nat → Prop} {w : World} {L D : Nat} {es : List Ent} {safe : Nat} {t : LSt} {s : ByteArray}
theorem WPut_arg (h : WAt V w L D es safe t) {n : Int} (hn : n < (t.f : Int) ∨ ((t.f + t.rs.length : Nat) : Int) < n ∨ 1073741824 ≤ n) : Calls Try.prog 11 #[.pointer (some ⟨L, 0, none⟩), .int .i64 n, .string s] w (Told (.int .i64 1) w) := by
  obtain ⟨h1, h2, o, o', h3, h4, h5, h6, h7⟩ := h
  exact Put_arg h5 hn
theorem WPut_long (h : WAt V w L D es safe t) {n : Int} (g1 : ¬ n < (t.f : Int)) (hn : ¬ ((t.f + t.rs.length : Nat) : Int) < n) (g3 : ¬ 1073741824 ≤ n) (hs : (65536 : Int) < (s.size : Int)) : Calls Try.prog 11 #[.pointer (some ⟨L, 0, none⟩), .int .i64 n, .string s] w (Told (.int .i64 3) w) := by
  obtain ⟨h1, h2, o, o', h3, h4, h5, h6, h7⟩ := h
  exact Put_long h5 g1 hn g3 hs
theorem WMeta_long (h : WAt V w L D es safe t) (hs : (65536 : Int) < (s.size : Int)) : Calls Try.prog 24 #[.pointer (some ⟨L, 0, none⟩), .string s] w fun e w' => e = .returned (.int .i64 3) ∧ w = w' := by
  obtain ⟨h1, h2, o, o', h3, h4, h5, h6, h7⟩ := h
  exact Meta_long h5 hs
theorem WBase_arg (h : WAt V w L D es safe t) {n : Int} (hn : n < (t.f : Int) ∨ 1073741824 < n) : Calls Try.prog 27 #[.pointer (some ⟨L, 0, none⟩), .int .i64 n, .string s] w fun e w' => e = .returned (.int .i64 1) ∧ w = w' := by
  obtain ⟨h1, h2, o, o', h3, h4, h5, h6, h7⟩ := h
  exact Base_arg h5 hn
theorem WBase_long (h : WAt V w L D es safe t) {n : Int} (g1 : ¬ n < (t.f : Int)) (g2 : ¬ 1073741824 < n) (hs : (65536 : Int) < (s.size : Int)) : Calls Try.prog 27 #[.pointer (some ⟨L, 0, none⟩), .int .i64 n, .string s] w fun e w' => e = .returned (.int .i64 3) ∧ w = w' := by
  obtain ⟨h1, h2, o, o', h3, h4, h5, h6, h7⟩ := h
  exact Base_long h5 g1 g2 hs
end
theorem OpenNil_calls (w : World) : Calls Try.prog 20 #[.pointer none] w fun e w' => e = .returned (.tuple #[.pointer none, .int .i64 1]) ∧ w = w' := by
  go_enter Try.func20, Try.ntmps20
  go_wp2_with fail
  go_step3
  go_wp2_with fail
  first | rw [Exit.noGoto_ret] | skip
  go_ret2
  exact ⟨rfl, rfl⟩

theorem Told.still {v : Value} {w w' : World} {e : Ending} (h : Told v w e w') : e = .returned v ∧ Chg (fun _ => False) w w' := by
  obtain ⟨h1, q, rfl⟩ := h
  exact ⟨h1, (Chg.refl (fun _ => False) w).drewN q⟩
theorem Told.same {v : Value} {w w' : World} {e : Ending} (h : e = .returned v ∧ w = w') : e = .returned v ∧ Chg (fun _ => False) w w' := by
  obtain ⟨h1, rfl⟩ := h
  exact ⟨h1, Chg.refl (fun _ => False) w⟩
theorem eb_len : ∀ es : List Ent, (eb es).length = (es.map fun e => e.size + 21).sum
  | [] => rfl
  | e :: es => by
    have h : eb (e :: es) = eb [e] ++ eb es := eb_append [e] es
    rw [h, List.length_append, eb_one_length, eb_len es]
    rfl
/-- behind a crash that takes nothing -/
theorem WCrashNone {V : Nat → Prop} {w : World} {L D : Nat} {es : List Ent} {safe : Nat} {t : LSt} (h : WAt V w L D es safe t) (hs : safe = (eb es).length) :
    Calls Try.prog 26 #[.pointer (some ⟨D, 0, none⟩), .int .i64 0] w (fun e w' => e = .returned (.tuple #[]) ∧ DAt V w' D (eb es) (eb es).length ∧ Chg V w w') := by
  have h1 := WCrash h 0
  have e : kept (eb es).length safe 0 = (eb es).length := by unfold kept; omega
  rw [e] at h1
  refine h1.mono ?_
  rintro e w' ⟨rfl, h2, h3⟩
  rw [List.take_length] at h2
  exact ⟨rfl, h2, h3⟩

abbrev nTwo : ByteArray := ⟨#[116, 119, 111]⟩
abbrev nThree : ByteArray := ⟨#[116, 104, 114, 101, 101]⟩
abbrev nNote : ByteArray := ⟨#[110, 111, 116, 101]⟩
abbrev nSnap : ByteArray := ⟨#[115, 110, 97, 112]⟩
abbrev nFar : ByteArray := ⟨#[102, 97, 114]⟩
abbrev nMost : ByteArray := ⟨#[109, 111, 115, 116]⟩
def nT1 (S1 : ByteArray) : LSt := ⟨1, [S1], ⟨#[]⟩, ⟨#[]⟩⟩
def nT2 (S1 : ByteArray) : LSt := ⟨1, [S1, nTwo], ⟨#[]⟩, ⟨#[]⟩⟩
def nT3 (S1 : ByteArray) : LSt := ⟨1, [S1, nTwo, nThree], ⟨#[]⟩, ⟨#[]⟩⟩
def nT4 (S1 : ByteArray) : LSt := ⟨1, [S1, nTwo, nThree], ⟨#[]⟩, nNote⟩
def nT5 : LSt := ⟨3, [nThree], nSnap, nNote⟩
def nT6 : LSt := ⟨9, [], nFar, nNote⟩
def nT7 : LSt := ⟨1073741824, [], nMost, nNote⟩
def nE1 (S1 : ByteArray) : List Ent := [.put 1 S1]
def nE2 (S1 : ByteArray) : List Ent := [.put 1 S1, .put 2 nTwo]
def nE3 (S1 : ByteArray) : List Ent := [.put 1 S1, .put 2 nTwo, .put 3 nThree]
def nE4 (S1 : ByteArray) : List Ent := [.put 1 S1, .put 2 nTwo, .put 3 nThree, .note nNote]
def nE5 : List Ent := imgs 3 nSnap nNote [nThree]
def nE6 : List Ent := imgs 9 nFar nNote []
def nE7 : List Ent := imgs 1073741824 nMost nNote []
theorem nE_len {S1 : ByteArray} (h : S1.size = 65536) : (eb (nE1 S1)).length = 65557 ∧ (eb (nE2 S1)).length = 65581 ∧ (eb (nE3 S1)).length = 65607 ∧ (eb nE5).length = 76 ∧ (eb nE6).length = 49 ∧ (eb nE7).length = 50 := by
  refine ⟨?_, ?_, ?_, ?_, ?_, ?_⟩
  · rw [eb_len]; show (S1.size + 21) + 0 = _; rw [h]
  · rw [eb_len]; show (S1.size + 21) + (24 + 0) = _; rw [h]
  · rw [eb_len]; show (S1.size + 21) + (24 + (26 + 0)) = _; rw [h]
  · rw [eb_len]; rfl
  · rw [eb_len]; rfl
  · rw [eb_len]; rfl

set_option maxRecDepth 100000 in
set_option maxHeartbeats 4000000 in
theorem numbers21 (w : World) : Calls Try.prog 6 #[] w (Known21 w) := by
  obtain ⟨W, hW⟩ : ∃ W, w.heap.size = W := ⟨_, rfl⟩
  have HW := Lib.hid hW
  have HF := Lib.hid (fresh_calls (fun k => W ≤ k) w (fun k hk => by omega))
  clear hW
  go_enter Try.func6, Try.ntmps6
  go_wp2_with fail
  refine (OpenNil_calls w).mono ?_
  rintro e w0 ⟨rfl, rfl⟩
  go_wp2_with fail
  refine HF.out.mono ?_
  rintro e w1 ⟨L, D, rfl, h1, hc1⟩
  go_wp2_with (at_make; refine wpList_makeZ21 rfl _ _ 31 rfl Try.underlying31 (by kernel_rfl) .i64 .i64 _ _ 65537 rfl rfl (by omega) (by omega) (by omega) (by omega) ?_)
  intro w2 z2 hc2
  have hst := run_string (P := Try.prog) (c := 65537) Try.underlying31 Try.underlying5 Try.underlying9 z2
  have hlg : (str (zeros21 65537)).size = 65537 := by
    show (zeros21 65537).toArray.size = 65537
    rw [List.size_toArray, zeros21_length]
  generalize str (zeros21 65537) = lg at hst hlg
  have HLG := Lib.hid hlg
  have hlgi : (lg.size : Int) = 65537 := by omega
  have h2 := h1.keep hc2
  have a2 := hc1.trans hc2 (fun _ _ h => h.elim)
  have z2 := a2.size
  obtain ⟨S1, hS1⟩ : ∃ S1, lg.extract 1 lg.size = S1 := ⟨_, rfl⟩
  have hs1 : S1.size = 65536 := by rw [← hS1, ByteArray.size_extract]; omega
  obtain ⟨l1, l2, l3, l5, l6, l7⟩ := nE_len hs1
  have HS1 := Lib.hid hs1
  have HL1 := Lib.hid l1
  have HL2 := Lib.hid l2
  have HL3 := Lib.hid l3
  have HL5 := Lib.hid l5
  have HL6 := Lib.hid l6
  have HL7 := Lib.hid l7
  clear h1 hc1 hc2 hlg hs1 l1 l2 l3 l5 l6 l7
  have H3 := Lib.hid (WPut_arg (s := ⟨#[120]⟩) (n := 5) h2 (by decide))
  skip
  go_wp2_with fail
  refine (H3.out.mono fun _ _ h => Told.still h).mono ?_
  rintro e w3 ⟨rfl, k3⟩
  have z3 := k3.size
  have h3 := h2.keep k3
  have a3 := a2.trans k3 (fun _ _ h => h.elim)
  clear H3 k3 a2 h2
  have H4 := Lib.hid (WPut_arg (s := ⟨#[120]⟩) (n := 0) h3 (by decide))
  skip
  go_wp2_with fail
  refine (H4.out.mono fun _ _ h => Told.still h).mono ?_
  rintro e w4 ⟨rfl, k4⟩
  have z4 := k4.size
  have h4 := h3.keep k4
  have a4 := a3.trans k4 (fun _ _ h => h.elim)
  clear H4 k4 a3 h3
  have H5 := Lib.hid (WPut_long (s := lg) (n := 1) h4 (by decide) (by decide) (by decide) (by have := HLG.out; omega))
  skip
  go_wp2_with fail
  refine (H5.out.mono fun _ _ h => Told.still h).mono ?_
  rintro e w5 ⟨rfl, k5⟩
  have z5 := k5.size
  have h5 := h4.keep k5
  have a5 := a4.trans k5 (fun _ _ h => h.elim)
  clear H5 k5 a4 h4
  have H6 := Lib.hid (WMeta_long (s := lg) h5 (by have := HLG.out; omega))
  skip
  go_wp2_with fail
  refine (H6.out.mono fun _ _ h => Told.same h).mono ?_
  rintro e w6 ⟨rfl, k6⟩
  have z6 := k6.size
  have h6 := h5.keep k6
  have a6 := a5.trans k6 (fun _ _ h => h.elim)
  clear H6 k6 a5 h5
  have H7 := Lib.hid (WBase_long (s := lg) (n := 9) h6 (by decide) (by decide) (by have := HLG.out; omega))
  skip
  go_wp2_with fail
  refine (H7.out.mono fun _ _ h => Told.same h).mono ?_
  rintro e w7 ⟨rfl, k7⟩
  have z7 := k7.size
  have h7 := h6.keep k7
  have a7 := a6.trans k7 (fun _ _ h => h.elim)
  clear H7 k7 a6 h6
  have H8 := Lib.hid (WPut (s := S1) (n := 1) (m := 1) h7 (fun k hk => by have := HW.out; omega) rfl (by decide) (by decide) (by decide) (by have := HS1.out; omega) (by decide) (by rw [eb_nil]; have := HS1.out; simp; omega))
  clear h7
  go_wp2_with fail
  (with_reducible refine H8.out.mono ?_)
  rintro e w8 ⟨rfl, h8, k8⟩
  have z8 := k8.size
  have a8 := a7.trans k8 (fun _ _ h => h)
  clear H8 k8 a7
  replace h8 : WAt (fun k => W ≤ k) w8 L D (nE1 S1) 0 (nT1 S1) := h8
  have H9 := Lib.hid (WPut (s := nTwo) (n := 2) (m := 2) h8 (fun k hk => by have := HW.out; omega) rfl (show 1 ≤ 2 by decide) (Nat.le_refl 2) (by decide) (by decide) (show 1 < 1000000 by decide) (by rw [HL1.out]; decide))
  clear h8
  go_wp2_with fail
  (with_reducible refine H9.out.mono ?_)
  rintro e w9 ⟨rfl, h9, k9⟩
  have z9 := k9.size
  have a9 := a8.trans k9 (fun _ _ h => h)
  clear H9 k9 a8
  replace h9 : WAt (fun k => W ≤ k) w9 L D (nE2 S1) 0 (nT2 S1) := h9
  have H10 := Lib.hid (WPut (s := nThree) (n := 3) (m := 3) h9 (fun k hk => by have := HW.out; omega) rfl (show 1 ≤ 3 by decide) (Nat.le_refl 3) (by decide) (by decide) (show 2 < 1000000 by decide) (by rw [HL2.out]; decide))
  clear h9
  go_wp2_with fail
  (with_reducible refine H10.out.mono ?_)
  rintro e w10 ⟨rfl, h10, k10⟩
  have z10 := k10.size
  have a10 := a9.trans k10 (fun _ _ h => h)
  clear H10 k10 a9
  replace h10 : WAt (fun k => W ≤ k) w10 L D (nE3 S1) 0 (nT3 S1) := h10
  have H11 := Lib.hid (WMeta (s := nNote) h10 (fun k hk => by have := HW.out; omega) (by decide) (by rw [HL3.out]; decide))
  clear h10
  go_wp2_with fail
  (with_reducible refine H11.out.mono ?_)
  rintro e w11 ⟨rfl, h11, k11⟩
  have z11 := k11.size
  have a11 := a10.trans k11 (fun _ _ h => h)
  clear H11 k11 a10
  replace h11 : WAt (fun k => W ≤ k) w11 L D (nE4 S1) 0 (nT4 S1) := h11
  have H12 := Lib.hid (WBase (s := nSnap) (n := 3) (m := 3) h11 (fun k hk => by have := HW.out; omega) rfl (show 1 ≤ 3 by decide) (by decide) (by decide) (by show (eb nE5).length ≤ _; rw [HL5.out]; decide))
  clear h11
  go_wp2_with fail
  (with_reducible refine H12.out.mono ?_)
  rintro e w12 ⟨rfl, h12, k12⟩
  have z12 := k12.size
  have a12 := a11.trans k12 (fun _ _ h => h)
  clear H12 k12 a11
  replace h12 : WAt (fun k => W ≤ k) w12 L D nE5 (eb nE5).length nT5 := h12
  have H13 := Lib.hid (WBase_arg (s := ⟨#[110, 111]⟩) (n := 2) h12 (Or.inl (show (2 : Int) < ((3 : Nat) : Int) by decide)))
  skip
  go_wp2_with fail
  refine (H13.out.mono fun _ _ h => Told.same h).mono ?_
  rintro e w13 ⟨rfl, k13⟩
  have z13 := k13.size
  have h13 := h12.keep k13
  have a13 := a12.trans k13 (fun _ _ h => h.elim)
  clear H13 k13 a12 h12
  have H14 := Lib.hid (show Calls Try.prog _ _ _ (Told (.tuple #[.int .i64 3, .string ⟨#[115, 110, 97, 112]⟩]) _) from WSnap h13)
  skip
  go_wp2_with fail
  refine (H14.out.mono fun _ _ h => Told.still h).mono ?_
  rintro e w14 ⟨rfl, k14⟩
  have z14 := k14.size
  have h14 := h13.keep k14
  have a14 := a13.trans k14 (fun _ _ h => h.elim)
  clear H14 k14 a13 h13
  have H15 := Lib.hid (show Calls Try.prog _ _ _ (Told (.tuple #[.string ⟨#[116, 104, 114, 101, 101]⟩, .bool true]) _) from WGet_in (m := 3) (k := 0) (s := nThree) h14 rfl rfl)
  skip
  go_wp2_with fail
  refine (H15.out.mono fun _ _ h => Told.still h).mono ?_
  rintro e w15 ⟨rfl, k15⟩
  have z15 := k15.size
  have h15 := h14.keep k15
  have a15 := a14.trans k15 (fun _ _ h => h.elim)
  clear H15 k15 a14 h14
  have H16 := Lib.hid (WGet_out (m := 2) h15 (Or.inl (show (2 : Int) < ((3 : Nat) : Int) by decide)))
  skip
  go_wp2_with fail
  refine (H16.out.mono fun _ _ h => Told.still h).mono ?_
  rintro e w16 ⟨rfl, k16⟩
  have z16 := k16.size
  have h16 := h15.keep k16
  have a16 := a15.trans k16 (fun _ _ h => h.elim)
  clear H16 k16 a15 h15
  have HC := Lib.hid (WCrashNone h16 rfl)
  clear h16
  go_wp2_with fail
  refine HC.out.mono ?_
  rintro e wc ⟨rfl, hc, kc⟩
  have zc := kc.size
  have ac := a16.trans kc (fun _ _ h => h)
  have HO := Lib.hid (WOpen (es := nE5) (rest := []) (t := nT5) hc (fun k hk => by have := HW.out; omega) (scanned_ents nE5 (by decide)) (by decide) rfl)
  clear hc HC kc a16
  go_wp2_with fail
  refine HO.out.mono ?_
  rintro e w17 ⟨L2, rfl, h17, hL2, kd⟩
  have z17 := kd.size
  have a17 := ac.trans kd (fun _ _ h => h)
  clear ac kd HO
  have H18 := Lib.hid (WBase (s := nFar) (n := 9) (m := 9) h17 (fun k hk => by have := HW.out; omega) rfl (show 3 ≤ 9 by decide) (by decide) (by decide) (by show (eb nE6).length ≤ _; rw [HL6.out]; decide))
  clear h17
  go_wp2_with fail
  (with_reducible refine H18.out.mono ?_)
  rintro e w18 ⟨rfl, h18, k18⟩
  have z18 := k18.size
  have a18 := a17.trans k18 (fun _ _ h => h)
  clear H18 k18 a17
  replace h18 : WAt (fun k => W ≤ k) w18 L2 D nE6 (eb nE6).length nT6 := h18
  have H19 := Lib.hid (WBase (s := nMost) (n := 1073741824) (m := 1073741824) h18 (fun k hk => by have := HW.out; omega) rfl (show 9 ≤ 1073741824 by decide) (by decide) (by decide) (by show (eb nE7).length ≤ _; rw [HL7.out]; decide))
  clear h18
  go_wp2_with fail
  (with_reducible refine H19.out.mono ?_)
  rintro e w19 ⟨rfl, h19, k19⟩
  have z19 := k19.size
  have a19 := a18.trans k19 (fun _ _ h => h)
  clear H19 k19 a18
  replace h19 : WAt (fun k => W ≤ k) w19 L2 D nE7 (eb nE7).length nT7 := h19
  have H20 := Lib.hid (WPut_arg (s := ⟨#[120]⟩) (n := 1073741824) h19 (by decide))
  skip
  go_wp2_with fail
  refine (H20.out.mono fun _ _ h => Told.still h).mono ?_
  rintro e w20 ⟨rfl, k20⟩
  have z20 := k20.size
  have h20 := h19.keep k20
  have a20 := a19.trans k20 (fun _ _ h => h.elim)
  clear H20 k20 a19 h19
  have H21 := Lib.hid (WBase_arg (s := ⟨#[120]⟩) (n := 1073741825) h20 (by decide))
  skip
  go_wp2_with fail
  refine (H21.out.mono fun _ _ h => Told.same h).mono ?_
  rintro e w21 ⟨rfl, k21⟩
  have z21 := k21.size
  have h21 := h20.keep k21
  have a21 := a20.trans k21 (fun _ _ h => h.elim)
  clear H21 k21 a20 h20
  have H22 := Lib.hid (show Calls Try.prog _ _ _ (Told (.tuple #[.int .i64 1073741824, .string ⟨#[109, 111, 115, 116]⟩]) _) from WSnap h21)
  skip
  go_wp2_with fail
  refine (H22.out.mono fun _ _ h => Told.still h).mono ?_
  rintro e w22 ⟨rfl, k22⟩
  have z22 := k22.size
  have h22 := h21.keep k22
  have a22 := a21.trans k22 (fun _ _ h => h.elim)
  clear H22 k22 a21 h21
  have H23 := Lib.hid (show Calls Try.prog _ _ _ (fun e w' => e = .returned (.string ⟨#[110, 111, 116, 101]⟩) ∧ _ = w') from WNote h22)
  skip
  go_wp2_with fail
  refine (H23.out.mono fun _ _ h => Told.same h).mono ?_
  rintro e w23 ⟨rfl, k23⟩
  have z23 := k23.size
  have h23 := h22.keep k23
  have a23 := a22.trans k23 (fun _ _ h => h.elim)
  clear H23 k23 a22 h22
  have H24 := Lib.hid (show Calls Try.prog _ _ _ (Told (.int .i64 1073741824) _) from WNext h23)
  skip
  go_wp2_with fail
  refine (H24.out.mono fun _ _ h => Told.still h).mono ?_
  rintro e w24 ⟨rfl, k24⟩
  have z24 := k24.size
  have h24 := h23.keep k24
  have a24 := a23.trans k24 (fun _ _ h => h.elim)
  clear H24 k24 a23 h23
  go_wp2_with fail
  refine (known_calls _).mono ?_
  rintro e wz ⟨rfl, kz⟩
  go_wp2_with fail
  go_ret
  exact ⟨rfl, (a24.trans kz (fun _ _ h => h.elim)).new fun k hk h => by have := HW.out; omega⟩
end Go.Proofs.Ytlnjadnddldjeaa
