/-
  Contracts of a log's recall, for records that say something.
-/
import Derived.Test.YtlnjadnddldjeaaLog10
namespace Go.Proofs.Ytlnjadnddldjeaa
open Go.RowKit
set_option linter.unusedVariables false
set_option linter.unusedSimpArgs false

theorem str_data (s : ByteArray) : str s.data.toList = s := by
  obtain ⟨⟨l⟩⟩ := s
  rfl
theorem u64_nat {n : Int} (h0 : 0 ≤ n) (h1 : n ≤ 2000000000) : ((u64 n : Nat) : Int) = n := by rw [u64_cast]; omega
theorem wrec_kind (kind n : Int) (s : List UInt8) (h0 : 0 ≤ kind) (h1 : kind ≤ 255) : rtake (wrec kind n s) 1 ⟨0, 0, 0⟩ = (le 1 (u64 kind), ⟨1, 0, 0⟩) ∧ ((num (le 1 (u64 kind)) : Nat) : Int) = kind := by
  refine ⟨?_, ?_⟩
  · exact rtake_at (pre := []) (x := le 1 (u64 kind)) (post := le 8 (u64 n) ++ s) (by rw [wrec, List.nil_append, List.append_assoc]) rfl (le_length 1 _).symm
  · rw [num_le]
    have := u64_nat (n := kind) h0 (by omega)
    have h2 : 256 ^ 1 = 256 := rfl
    rw [h2, Nat.mod_eq_of_lt (by omega)]
    exact this
theorem wrec_num (kind n : Int) (s : List UInt8) (h0 : 0 ≤ n) (h1 : n ≤ 2000000000) : rtake (wrec kind n s) 8 ⟨1, 0, 0⟩ = (le 8 (u64 n), ⟨9, 0, 0⟩) ∧ s64 (num (le 8 (u64 n))) = n := by
  refine ⟨?_, ?_⟩
  · exact rtake_at (pre := le 1 (u64 kind)) (x := le 8 (u64 n)) (post := s) (by rw [wrec, List.append_assoc]) (le_length 1 _).symm (le_length 8 _).symm
  · rw [num_le8 (by have := u64_nat h0 h1; omega)]
    exact s64_u64 n (by omega)
theorem wrec_drop (kind n : Int) (s : List UInt8) : (wrec kind n s).drop 9 = s := by
  rw [wrec]
  exact List.drop_left' (by rw [List.length_append, le_length, le_length])

/-- what recall leaves where a record says something -/
def Recalled (w : World) (L D : Nat) (own : Option Nat) (t : LSt) (e : Ending) (w' : World) : Prop :=
  ∃ own', e = .returned (.bool true) ∧ LogAt w' L D own' t.f t.rs t.snap t.note ∧ (own' = own ∨ ∀ g, own' = some g → w.heap.size ≤ g) ∧ Chg (fun k => k = L ∨ own = some k) w w'

set_option maxRecDepth 100000 in
set_option maxHeartbeats 2000000 in
theorem recall_note {w : World} {L D f : Nat} {n : Int} {own : Option Nat} {rs : List ByteArray} {snap note s : ByteArray} {S : Nat → Prop} {A : Option Addr} {m c : Nat} (h : LogAt w L D own f rs snap note)
    (hq : Cs w S A m (bv (wrec 2 n s.data.toList))) (hS : ∀ k, S k → k < w.heap.size) (hmc : m ≤ c) (hc : c ≤ 9223372036854775807) (hs : s.size ≤ 80000000) (hn0 : 0 ≤ n) (hn1 : n ≤ 2000000000) :
    Calls Try.prog 39 #[.pointer (some ⟨L, 0, none⟩), .slice A m c] w (Recalled w L D own ⟨f, rs, snap, s⟩) := by
  have hN := Next_calls h
  have hl := h
  have hLlt := hl.lt
  have hlen : (wrec 2 n s.data.toList).length = s.size + 9 := by rw [wrec_length, Array.length_toList]; rfl
  have hm : m = s.size + 9 := by rw [← hlen, ← bv_length]; exact hq.1.symm
  subst hm
  obtain ⟨e1, e2⟩ := wrec_kind 2 n s.data.toList (by decide) (by decide)
  obtain ⟨e3, e4⟩ := wrec_num 2 n s.data.toList hn0 hn1
  have hNR := NewReader_calls (c := c) (fun k => w.heap.size ≤ k) hq (by omega) (fun k hk => hk)
  obtain ⟨bq, oq, rfl, hbq, -⟩ := hq.2 (by omega)
  have hqd := hq.drop (k := 9) (by omega) hmc
  rw [← bv_drop, wrec_drop, show s.size + 9 - 9 = s.size by omega] at hqd
  have hqc : ∀ w', Chg (fun k => w.heap.size ≤ k) w w' → (convert 31 9 (.slice (if c = 9 then some ⟨bq, oq, none⟩ else (some (⟨bq, oq, none⟩ : Addr)).map (·.add 9)) s.size (c - 9))).run Try.prog w' = .ok (.string s) w' := fun w' hc => by
    have h := run_string (P := Try.prog) (w := w') (c := c - 9) Try.underlying31 Try.underlying5 Try.underlying9 (hqd.chg hc (fun k hk hs hk' => by have := hS k hs; omega))
    rw [str_data] at h
    exact h
  have HQC := Lib.hid hqc
  have HE1 := Lib.hid e1
  have HE2 := Lib.hid e2
  have HE3 := Lib.hid e3
  have HE4 := Lib.hid e4
  have HNR := Lib.hid hNR
  have HLEN := Lib.hid hlen
  have hmi : (9 : Int) ≤ (c : Int) := by omega
  clear hN hqc hqd e1 e2 e3 e4 hNR hlen hS hq h
  go_enter Try.func39, Try.ntmps39
  go_wp2_with fail
  refine HNR.out.mono ?_
  rintro e w1 ⟨rr, rfl, hRE, hR1, hc1⟩
  have h1 := RByte_calls hR1
  rw [HE1.out] at h1
  simp only at h1
  rw [HE2.out] at h1
  have H1 := Lib.hid h1
  clear h1 HNR hR1
  go_wp2_with fail
  refine H1.out.mono ?_
  rintro e w2 ⟨rfl, hR2, hc2⟩
  have h2 := RLong_calls hR2
  rw [HE3.out] at h2
  simp only at h2
  rw [HE4.out] at h2
  have H2 := Lib.hid h2
  clear h2 H1 hR2
  go_wp2_with fail
  refine H2.out.mono ?_
  rintro e w3 ⟨rfl, hR3, hc3⟩
  have h3 := Refused_calls hR3
  have h4 := Left_calls hR3
  have e5 : rleft (wrec 2 n s.data.toList) ⟨9, 0, 0⟩ = (s.size : Int) := by
    rw [rleft, if_pos rfl, HLEN.out]; show ((s.size + 9 - 9 : Nat) : Int) = _; omega
  rw [e5] at h4
  have H3 := Lib.hid h3
  have H4 := Lib.hid h4
  clear h3 h4 H2 e5
  go_wp2_with fail
  refine H3.out.mono ?_
  rintro e w4 ⟨rfl, rfl⟩
  go_wp2_with fail
  refine H4.out.mono ?_
  rintro e w5 ⟨rfl, q5, rfl⟩
  have k5 : Chg (fun k => w.heap.size ≤ k) w (w3.drewN q5) := (((hc1.wide (T := fun k => w.heap.size ≤ k)).trans hc2 (fun i _ e => by omega)).trans hc3 (fun i _ e => by omega)).drewN q5
  have hcv := HQC.out _ k5
  have k5 : Chg (fun _ => False) w (w3.drewN q5) := k5.new fun k hk e => by omega
  obtain ⟨w5, hw5⟩ : ∃ w5, w3.drewN q5 = w5 := ⟨_, rfl⟩
  rw [hw5] at k5 hcv ⊢
  have hx9 : (s.size : Int) + 9 - (s.size : Int) = 9 := by omega
  have hl5 := hl.keep k5
  clear hw5 hR3 hc1 hc2 hc3 H3 H4 HQC HE1 HE2 HE3 HE4
  obtain ⟨g1, g2, B, cap, hh, hO⟩ := hl5
  obtain ⟨⟨c0, c1, c2, c3, c4⟩, hf⟩ := five_cells hh
  have f4 := hf 4
  have hO5 := hO.setOther (p := ⟨L, 4, none⟩) (hO.ne_ hh (by decide)) (.string s)
  have hh5 := five_set4 hh (.string s)
  have HH5 := Lib.hid hh5
  clear hf hh hO hh5
  by_cases hc9 : c = 9
  all_goals
    first | (rw [if_pos hc9, show s.size = 0 by omega] at hcv; subst hc9; simp only [Nat.sub_self] at hcv) | (rw [if_neg hc9] at hcv; simp only [Option.map_some, add_lit'] at hcv)
    go_wp2_with fail
    go_ret
    exact ⟨own, rfl, ⟨g1, g2, B, cap, HH5.out, hO5⟩, .inl rfl, (k5.wide (T := fun k => k = L ∨ own = some k)).setIn (.inl rfl) _ _⟩
set_option maxRecDepth 100000 in
set_option maxHeartbeats 2000000 in
theorem recall_base {w : World} {L D f : Nat} {n : Int} {own : Option Nat} {rs : List ByteArray} {snap note s : ByteArray} {S : Nat → Prop} {A : Option Addr} {m c : Nat} (h : LogAt w L D own f rs snap note)
    (hq : Cs w S A m (bv (wrec 3 n s.data.toList))) (hS : ∀ k, S k → k < w.heap.size) (hmc : m ≤ c) (hc : c ≤ 9223372036854775807) (hs : s.size ≤ 80000000) (hn0 : 0 ≤ n) (hn1 : n ≤ 2000000000) (hfn : (f : Int) ≤ n) (hn2 : n ≤ 1073741824) :
    Calls Try.prog 39 #[.pointer (some ⟨L, 0, none⟩), .slice A m c] w (Recalled w L D own ⟨n.toNat, [], s, note⟩) := by
  have hN := Next_calls h
  have hl := h
  have hLlt := hl.lt
  have hlen : (wrec 3 n s.data.toList).length = s.size + 9 := by rw [wrec_length, Array.length_toList]; rfl
  have hm : m = s.size + 9 := by rw [← hlen, ← bv_length]; exact hq.1.symm
  subst hm
  obtain ⟨e1, e2⟩ := wrec_kind 3 n s.data.toList (by decide) (by decide)
  obtain ⟨e3, e4⟩ := wrec_num 3 n s.data.toList hn0 hn1
  have hNR := NewReader_calls (c := c) (fun k => w.heap.size ≤ k) hq (by omega) (fun k hk => hk)
  obtain ⟨bq, oq, rfl, hbq, -⟩ := hq.2 (by omega)
  have hqd := hq.drop (k := 9) (by omega) hmc
  rw [← bv_drop, wrec_drop, show s.size + 9 - 9 = s.size by omega] at hqd
  have hqc : ∀ w', Chg (fun k => w.heap.size ≤ k) w w' → (convert 31 9 (.slice (if c = 9 then some ⟨bq, oq, none⟩ else (some (⟨bq, oq, none⟩ : Addr)).map (·.add 9)) s.size (c - 9))).run Try.prog w' = .ok (.string s) w' := fun w' hc => by
    have h := run_string (P := Try.prog) (w := w') (c := c - 9) Try.underlying31 Try.underlying5 Try.underlying9 (hqd.chg hc (fun k hk hs hk' => by have := hS k hs; omega))
    rw [str_data] at h
    exact h
  have HQC := Lib.hid hqc
  have HE1 := Lib.hid e1
  have HE2 := Lib.hid e2
  have HE3 := Lib.hid e3
  have HE4 := Lib.hid e4
  have HNR := Lib.hid hNR
  have HLEN := Lib.hid hlen
  have hmi : (9 : Int) ≤ (c : Int) := by omega
  clear hN hqc hqd e1 e2 e3 e4 hNR hlen hS hq h
  go_enter Try.func39, Try.ntmps39
  go_wp2_with fail
  refine HNR.out.mono ?_
  rintro e w1 ⟨rr, rfl, hRE, hR1, hc1⟩
  have h1 := RByte_calls hR1
  rw [HE1.out] at h1
  simp only at h1
  rw [HE2.out] at h1
  have H1 := Lib.hid h1
  clear h1 HNR hR1
  go_wp2_with fail
  refine H1.out.mono ?_
  rintro e w2 ⟨rfl, hR2, hc2⟩
  have h2 := RLong_calls hR2
  rw [HE3.out] at h2
  simp only at h2
  rw [HE4.out] at h2
  have H2 := Lib.hid h2
  clear h2 H1 hR2
  go_wp2_with fail
  refine H2.out.mono ?_
  rintro e w3 ⟨rfl, hR3, hc3⟩
  have h3 := Refused_calls hR3
  have h4 := Left_calls hR3
  have e5 : rleft (wrec 3 n s.data.toList) ⟨9, 0, 0⟩ = (s.size : Int) := by
    rw [rleft, if_pos rfl, HLEN.out]; show ((s.size + 9 - 9 : Nat) : Int) = _; omega
  rw [e5] at h4
  have H3 := Lib.hid h3
  have H4 := Lib.hid h4
  clear h3 h4 H2 e5
  go_wp2_with fail
  refine H3.out.mono ?_
  rintro e w4 ⟨rfl, rfl⟩
  go_wp2_with fail
  refine H4.out.mono ?_
  rintro e w5 ⟨rfl, q5, rfl⟩
  have k5 : Chg (fun k => w.heap.size ≤ k) w (w3.drewN q5) := (((hc1.wide (T := fun k => w.heap.size ≤ k)).trans hc2 (fun i _ e => by omega)).trans hc3 (fun i _ e => by omega)).drewN q5
  have hcv := HQC.out _ k5
  have k5 : Chg (fun _ => False) w (w3.drewN q5) := k5.new fun k hk e => by omega
  obtain ⟨w5, hw5⟩ : ∃ w5, w3.drewN q5 = w5 := ⟨_, rfl⟩
  rw [hw5] at k5 hcv ⊢
  have hx9 : (s.size : Int) + 9 - (s.size : Int) = 9 := by omega
  have hl5 := hl.keep k5
  clear hw5 hR3 hc1 hc2 hc3 H3 H4 HQC HE1 HE2 HE3 HE4
  obtain ⟨g1, g2, B, cap, hh, hO⟩ := hl5
  obtain ⟨⟨c0, c1, c2, c3, c4⟩, hf⟩ := five_cells hh
  have f1 := hf 1
  have f2 := hf 2
  have f3 := hf 3
  have hh5 := five_set132 hh (.int .i64 n) (.string s) (.slice none 0 0)
  have hnn : ((n.toNat : Nat) : Int) = n := by omega
  have HNN := Lib.hid hnn
  have HH5 := Lib.hid hh5
  clear hf hh hO hh5 hnn
  by_cases hc9 : c = 9
  all_goals
    first | (rw [if_pos hc9, show s.size = 0 by omega] at hcv; subst hc9; simp only [Nat.sub_self] at hcv) | (rw [if_neg hc9] at hcv; simp only [Option.map_some, add_lit'] at hcv)
    go_wp2_with fail
    go_ret
    refine ⟨none, rfl, ⟨by show n.toNat ≤ _; omega, by simp, none, 0, ?_, Own.nil_ _ _ _⟩, .inr (fun g hg => by cases hg), (((k5.wide (T := fun k => k = L ∨ own = some k)).setIn (.inl rfl) _ _).setIn (.inl rfl) _ _).setIn (.inl rfl) _ _⟩
    rw [HNN.out]
    exact HH5.out
set_option maxRecDepth 100000 in
set_option maxHeartbeats 2000000 in
theorem recall_put {w : World} {L D f k : Nat} {n : Int} {own : Option Nat} {rs : List ByteArray} {snap note s : ByteArray} {S : Nat → Prop} {A : Option Addr} {m c : Nat} (h : LogAt w L D own f rs snap note)
    (hq : Cs w S A m (bv (wrec 1 n s.data.toList))) (hS : ∀ k, S k → k < w.heap.size) (hmc : m ≤ c) (hc : c ≤ 9223372036854775807) (hs : s.size ≤ 80000000) (hn0 : 0 ≤ n) (hn1 : n ≤ 2000000000) (hk : k ≤ rs.length) (hk1 : k < 1000000) (hfn : n = (f : Int) + (k : Int)) :
    Calls Try.prog 39 #[.pointer (some ⟨L, 0, none⟩), .slice A m c] w (Recalled w L D own ⟨f, rs.take k ++ [s], snap, note⟩) := by
  have HFN := Lib.hid hfn
  clear hfn
  have hN := Next_calls h
  have hl := h
  have hLlt := hl.lt
  have hlen : (wrec 1 n s.data.toList).length = s.size + 9 := by rw [wrec_length, Array.length_toList]; rfl
  have hm : m = s.size + 9 := by rw [← hlen, ← bv_length]; exact hq.1.symm
  subst hm
  obtain ⟨e1, e2⟩ := wrec_kind 1 n s.data.toList (by decide) (by decide)
  obtain ⟨e3, e4⟩ := wrec_num 1 n s.data.toList hn0 hn1
  have hNR := NewReader_calls (c := c) (fun k => w.heap.size ≤ k) hq (by omega) (fun k hk => hk)
  obtain ⟨bq, oq, rfl, hbq, -⟩ := hq.2 (by omega)
  have hqd := hq.drop (k := 9) (by omega) hmc
  rw [← bv_drop, wrec_drop, show s.size + 9 - 9 = s.size by omega] at hqd
  have hqc : ∀ w', Chg (fun k => w.heap.size ≤ k) w w' → (convert 31 9 (.slice (if c = 9 then some ⟨bq, oq, none⟩ else (some (⟨bq, oq, none⟩ : Addr)).map (·.add 9)) s.size (c - 9))).run Try.prog w' = .ok (.string s) w' := fun w' hc => by
    have h := run_string (P := Try.prog) (w := w') (c := c - 9) Try.underlying31 Try.underlying5 Try.underlying9 (hqd.chg hc (fun k hk hs hk' => by have := hS k hs; omega))
    rw [str_data] at h
    exact h
  have HQC := Lib.hid hqc
  have HE1 := Lib.hid e1
  have HE2 := Lib.hid e2
  have HE3 := Lib.hid e3
  have HE4 := Lib.hid e4
  have HNR := Lib.hid hNR
  have HLEN := Lib.hid hlen
  have hmi : (9 : Int) ≤ (c : Int) := by omega
  clear hN hqc hqd e1 e2 e3 e4 hNR hlen hS hq h
  go_enter Try.func39, Try.ntmps39
  go_wp2_with fail
  refine HNR.out.mono ?_
  rintro e w1 ⟨rr, rfl, hRE, hR1, hc1⟩
  have h1 := RByte_calls hR1
  rw [HE1.out] at h1
  simp only at h1
  rw [HE2.out] at h1
  have H1 := Lib.hid h1
  clear h1 HNR hR1
  go_wp2_with fail
  refine H1.out.mono ?_
  rintro e w2 ⟨rfl, hR2, hc2⟩
  have h2 := RLong_calls hR2
  rw [HE3.out] at h2
  simp only at h2
  rw [HE4.out] at h2
  have H2 := Lib.hid h2
  clear h2 H1 hR2
  go_wp2_with fail
  refine H2.out.mono ?_
  rintro e w3 ⟨rfl, hR3, hc3⟩
  have h3 := Refused_calls hR3
  have h4 := Left_calls hR3
  have e5 : rleft (wrec 1 n s.data.toList) ⟨9, 0, 0⟩ = (s.size : Int) := by
    rw [rleft, if_pos rfl, HLEN.out]; show ((s.size + 9 - 9 : Nat) : Int) = _; omega
  rw [e5] at h4
  have H3 := Lib.hid h3
  have H4 := Lib.hid h4
  clear h3 h4 H2 e5
  go_wp2_with fail
  refine H3.out.mono ?_
  rintro e w4 ⟨rfl, rfl⟩
  go_wp2_with fail
  refine H4.out.mono ?_
  rintro e w5 ⟨rfl, q5, rfl⟩
  have k5 : Chg (fun k => w.heap.size ≤ k) w (w3.drewN q5) := (((hc1.wide (T := fun k => w.heap.size ≤ k)).trans hc2 (fun i _ e => by omega)).trans hc3 (fun i _ e => by omega)).drewN q5
  have hcv := HQC.out _ k5
  have k5 : Chg (fun _ => False) w (w3.drewN q5) := k5.new fun k hk e => by omega
  obtain ⟨w5, hw5⟩ : ∃ w5, w3.drewN q5 = w5 := ⟨_, rfl⟩
  rw [hw5] at k5 hcv ⊢
  have hx9 : (s.size : Int) + 9 - (s.size : Int) = 9 := by omega
  have hl5 := hl.keep k5
  clear hw5 hR3 hc1 hc2 hc3 H3 H4 HQC HE1 HE2 HE3 HE4
  obtain ⟨g1, g2, B, cap, hh, hO⟩ := hl5
  obtain ⟨⟨c0, c1, c2, c3, c4⟩, hf⟩ := five_cells hh
  have hcap := hO.2.1
  have hfn := HFN.out
  have hNx := Next_calls (hl.keep k5)
  obtain ⟨N, hNN⟩ : ∃ N, f + rs.length = N := ⟨_, rfl⟩
  rw [hNN] at hNx
  have HN := Lib.hid hNx
  have i1 : (f : Int) ≤ n := by omega
  have i2 : n ≤ (N : Int) := by omega
  have i4 : n - (f : Int) = (k : Int) := by omega
  have i5 : (0 : Int) ≤ (k : Int) := by omega
  have i6 : (k : Int) ≤ (cap : Int) := by omega
  have i7 : ¬ (k : Int) < 0 := by omega
  have gw : IntKind.i64.wrap (k : Int) = (k : Int) := IntWalk.i64_in (k : Int) (by omega)
  have HK := Lib.hid hk
  have HK1 := Lib.hid hk1
  have hol : ∀ i, own = some i → ¬ i = L := fun i hi e => hO.ne_ hh (by decide) (by rw [hi, e])
  have HOL := Lib.hid hol
  have HHH := Lib.hid hh
  have HOO := Lib.hid hO
  clear hNx hNN hfn hk hk1 hol hh hO hf
  by_cases hc9 : c = 9
  all_goals
    first | (rw [if_pos hc9, show s.size = 0 by omega] at hcv; subst hc9; simp only [Nat.sub_self] at hcv) | (rw [if_neg hc9] at hcv; simp only [Option.map_some, add_lit'] at hcv)
    go_wp2_with fail
    refine HN.out.mono ?_
    rintro e w7 ⟨rfl, q7, rfl⟩
    obtain ⟨w5b, hw5b⟩ : ∃ w5b, w5.drewN q7 = w5b := ⟨_, rfl⟩
    have k57 : Chg (fun _ => False) w5 w5b := by rw [← hw5b]; exact (Chg.refl (fun _ => False) w5).drewN q7
    rw [hw5b]
    have k5 := k5.trans k57 (fun _ _ h => h)
    have hh := k57.heap HHH.out (fun h => h)
    have hO := HOO.out.chg k57 (fun _ _ h => h)
    clear hw5b k57 c0 c1 c2 c3 c4
    obtain ⟨⟨c0, c1, c2, c3, c4⟩, hf⟩ := five_cells hh
    have f2 := hf 2
    have kb : Chg (fun _ => False) w5b (w5b.drew.alloc (.cells #[.string s] 9)) := ((Chg.refl (fun _ => False) w5b).drew).alloc _
    have b1 := kb.cell c1 (fun h => h)
    have b2 := kb.cell c2 (fun h => h)
    have hOb := (hO.chg kb (fun _ _ h => h)).take (k := k) HK.out
    rw [sv_take] at hOb
    have hsl := (Own.fresh w5b.drew [.string s] 9 (by simp)).cs
    have hhb := kb.heap hh (fun h => h)
    have kc : Chg (fun _ => False) w5b ((w5b.alloc (.cells #[.string s] 9)).drew) := ((Chg.refl (fun _ => False) w5b).alloc _).drew
    have d1 := kc.cell c1 (fun h => h)
    have d2 := kc.cell c2 (fun h => h)
    have hOc := (hO.chg kc (fun _ _ h => h)).take (k := k) HK.out
    rw [sv_take] at hOc
    have hsm := ((Own.fresh w5b [.string s] 9 (by simp)).chg ((Chg.refl (fun _ => False) _).drew) (fun _ _ h => h)).cs
    have hhc := kc.heap hh (fun h => h)
    clear hf hcv
    go_wp2_with fail
    refine wp_region_held_drew (S := fun wx => wx.cell? ⟨L, 1, none⟩ = some (.int .i64 (f : Int))) (by kernel_rfl) c1 (fun hHeld => ?_)
    refine take_at (i := 0) (some 42) (v := ?_) rfl rfl (by kernel_rfl) (by kernel_rfl) (by kernel_rfl) (fun _ _ _ h => h) (Or.inl ⟨by rfl, ?_⟩) (by assumption) ?_
    rotate_left
    · (intro wx hSw; go_simp; try (with_reducible rfl))
    try simp only [Act.put, List.setIfInBounds_toArray, List.set_cons_zero, List.set_cons_succ]
    refine take_at (i := 1) (some 43) (v := ?_) rfl rfl (by kernel_rfl) (by kernel_rfl) (by kernel_rfl) (fun _ _ _ h => h) (Or.inl ⟨by rfl, ?_⟩) (by assumption) ?_
    rotate_left
    · (intro wx hSw; go_simp; try (with_reducible rfl))
    try simp only [Act.put, List.setIfInBounds_toArray, List.set_cons_zero, List.set_cons_succ]
    refine take_at (i := 2) (some 44) (v := ?_) rfl rfl (by kernel_rfl) (by kernel_rfl) (by kernel_rfl) (fun _ _ _ h => h) (Or.inl ⟨by rfl, ?_⟩) (by assumption) ?_
    rotate_left
    · (intro wx hSw; go_simp; try (with_reducible rfl))
    try simp only [Act.put, List.setIfInBounds_toArray, List.set_cons_zero, List.set_cons_succ]
    refine take_at (i := 3) (some 45) (v := ?_) rfl rfl (by kernel_rfl) (by kernel_rfl) (by kernel_rfl) (fun _ _ _ h => h) (Or.inl ⟨by rfl, ?_⟩) (by assumption) ?_
    rotate_left
    · (intro wx hSw; go_simp; try (with_reducible rfl))
    try simp only [Act.put, List.setIfInBounds_toArray, List.set_cons_zero, List.set_cons_succ]
    refine take_at (i := 5) (some 47) (v := ?_) rfl rfl (by kernel_rfl) (by kernel_rfl) (by kernel_rfl) (fun _ _ _ h => h) (Or.inl ⟨by rfl, ?_⟩) (by assumption) ?_
    rotate_left
    · (intro wx hSw; go_simp; try (with_reducible rfl))
    try simp only [Act.put, List.setIfInBounds_toArray, List.set_cons_zero, List.set_cons_succ]
    refine take_at (i := 6) (some 48) (v := ?_) rfl rfl (by kernel_rfl) (by kernel_rfl) (by kernel_rfl) (fun _ _ _ h => h) (Or.inl ⟨by rfl, ?_⟩) (by assumption) ?_
    rotate_left
    · (intro wx hSw; go_simp; try (with_reducible rfl))
    try simp only [Act.put, List.setIfInBounds_toArray, List.set_cons_zero, List.set_cons_succ]
    refine take_at (i := 7) (some 49) (v := ?_) rfl rfl (by kernel_rfl) (by kernel_rfl) (by kernel_rfl) (fun _ _ _ h => h) (Or.inl ⟨by rfl, ?_⟩) (by assumption) ?_
    rotate_left
    · (intro wx hSw; go_simp; try (with_reducible rfl))
    try simp only [Act.put, List.setIfInBounds_toArray, List.set_cons_zero, List.set_cons_succ]
    refine take_at (i := 8) (some 50) (v := ?_) rfl rfl (by kernel_rfl) (by kernel_rfl) (by kernel_rfl) (fun _ _ _ h => h) (Or.inl ⟨by rfl, ?_⟩) (by assumption) ?_
    rotate_left
    · (intro wx hSw; go_simp; try (with_reducible rfl))
    try simp only [Act.put, List.setIfInBounds_toArray, List.set_cons_zero, List.set_cons_succ]
    refine take_at (i := 9) (some 51) (v := ?_) rfl rfl (by kernel_rfl) (by kernel_rfl) (by kernel_rfl) (fun _ _ _ h => h) (Or.inl ⟨by rfl, ?_⟩) (by assumption) ?_
    rotate_left
    · (intro wx hSw; go_simp; try (with_reducible rfl))
    try simp only [Act.put, List.setIfInBounds_toArray, List.set_cons_zero, List.set_cons_succ]
    refine take_at (i := 10) (some 52) (v := ?_) rfl rfl (by kernel_rfl) (by kernel_rfl) (by kernel_rfl) (fun _ _ _ h => h) (Or.inl ⟨by rfl, ?_⟩) (by assumption) ?_
    rotate_left
    · (intro wx hSw; go_simp; try (with_reducible rfl))
    try simp only [Act.put, List.setIfInBounds_toArray, List.set_cons_zero, List.set_cons_succ]
    refine take_at (i := 12) (some 54) (v := ?_) rfl rfl (by kernel_rfl) (by kernel_rfl) (by kernel_rfl) (fun _ _ _ h => h) (Or.inl ⟨by rfl, ?_⟩) (by assumption) ?_
    rotate_left
    · (intro wx hSw; go_simp; try (with_reducible rfl))
    try simp only [Act.put, List.setIfInBounds_toArray, List.set_cons_zero, List.set_cons_succ]
    refine wpAnyH_ready (rs := [4, 13]) (by kernel_rfl) (by simp) ?_
    refine AllReadyH.cons rfl (fun K hK => ?_) ?_
    · skip
      go_simp
      refine hK.out _ _ ?_ (fun hHeld => ?_)
      · (first | exact c1 | exact b1 | exact d1 | exact e1 | exact e1s _)
      clear hK K
      try simp only [Act.put, List.setIfInBounds_toArray, List.set_cons_zero, List.set_cons_succ]
      refine take_at (i := 11) (some 53) (v := ?_) rfl rfl (by kernel_rfl) (by kernel_rfl) (by kernel_rfl) (fun _ _ _ h => h) (Or.inl ⟨by rfl, ?_⟩) (by assumption) ?_
      rotate_left
      · (intro wx hSw; go_simp; try (with_reducible rfl))
      try simp only [Act.put, List.setIfInBounds_toArray, List.set_cons_zero, List.set_cons_succ]
      refine wpAnyH_ready (rs := [13]) (by kernel_rfl) (by simp) ?_
      refine AllReadyH.cons rfl (fun K hK => ?_) AllReadyH.nil
      go_simp
      refine hK.out _ _ ?_ (fun hHeld => ?_)
      · (first | exact c1 | exact b1 | exact d1 | exact e1 | exact e1s _)
      clear hK K
      try simp only [Act.put, List.setIfInBounds_toArray, List.set_cons_zero, List.set_cons_succ]
      refine wpAnyH_ready (rs := [14]) (by kernel_rfl) (by simp) ?_
      refine AllReadyH.cons rfl (fun K hK => ?_) AllReadyH.nil
      refine step_append rfl _ _ 22 22 rfl 9 16 strsApp own B k cap (sv (rs.take k)) [.string s] _ rfl rfl (by first | exact hOb | exact hOc) (by first | exact Src.slice hsl | exact Src.slice hsm) (by intro u hu; simp at hu; subst hu; rfl) (k + 1) rfl (by have := HK1.out; omega) (by have := HK1.out; omega) ?_
      intro o6 A6 c6 w6 hO6 hor6 hc6
      go_simp
      have hh6 : w6.heap[L]? = some (.cells #[.pointer (some ⟨D, 0, none⟩), .int .i64 (f : Int), .slice B rs.length cap, .string snap, .string note] 62 (0, 0)) := by first | exact hc6.heap hhb (fun e => HOL.out L e rfl) | exact hc6.heap hhc (fun e => HOL.out L e rfl)
      obtain ⟨⟨_, e1, e2, _, _⟩, hf6⟩ := five_cells hh6
      have ff6 := hf6 2
      have e1s : ∀ u, (w6.setCell ⟨L, 2, none⟩ u).cell? ⟨L, 1, none⟩ = some (.int .i64 (f : Int)) := fun u => (five_cells (five_set2 hh6 u)).1.2.1
      refine hK.out _ _ ?_ (fun hHeld => ?_)
      · (first | exact c1 | exact b1 | exact d1 | exact e1 | exact e1s _)
      clear hK K
      try simp only [Act.put, List.setIfInBounds_toArray, List.set_cons_zero, List.set_cons_succ]
      refine take_at (i := 15) (some 57) (v := ?_) rfl rfl (by kernel_rfl) (by kernel_rfl) (by kernel_rfl) (fun _ _ _ h => h) (Or.inl ⟨by rfl, ?_⟩) (by assumption) ?_
      rotate_left
      · (intro wx hSw; go_simp; try (with_reducible rfl))
      try simp only [Act.put, List.setIfInBounds_toArray, List.set_cons_zero, List.set_cons_succ]
      refine take_at (i := 16) (some 58) (v := ?_) rfl rfl (by kernel_rfl) (by kernel_rfl) (by kernel_rfl) (fun _ _ _ h => h) (Or.inl ⟨by rfl, ?_⟩) (by assumption) ?_
      rotate_left
      · (intro wx hSw; go_simp; try (with_reducible rfl))
      try simp only [Act.put, List.setIfInBounds_toArray, List.set_cons_zero, List.set_cons_succ]
      refine wpAnyH_ready (rs := [17]) (by kernel_rfl) (by simp) ?_
      refine AllReadyH.cons rfl (fun K hK => ?_) AllReadyH.nil
      go_simp
      refine hK.out _ _ ?_ (fun hHeld => ?_)
      · (first | exact c1 | exact b1 | exact d1 | exact e1 | exact e1s _)
      clear hK K
      try simp only [Act.put, List.setIfInBounds_toArray, List.set_cons_zero, List.set_cons_succ]
      refine wpAnyH_done (by kernel_rfl) ?_ _
      have kf : Chg (fun i => i = L ∨ own = some i) w5b (w6.setCell ⟨L, 2, none⟩ (.slice A6 (k + 1) c6)) := by first | exact ((kb.wide (T := fun i => i = L ∨ own = some i)).trans hc6 (fun i _ e => .inr e)).setIn (.inl rfl) _ _ | exact ((kc.wide (T := fun i => i = L ∨ own = some i)).trans hc6 (fun i _ e => .inr e)).setIn (.inl rfl) _ _
      have zb := kb.size
      have zc := kc.size
      have z5 := k5.size
      have hlen : (rs.take k ++ [s]).length = k + 1 := by rw [List.length_append, List.length_take, Nat.min_eq_left HK.out]; rfl
      have hsv : sv (rs.take k ++ [s]) = sv (rs.take k) ++ [.string s] := by simp [sv]
      have hn6 : o6 = own ∨ ∀ g, o6 = some g → w.heap.size ≤ g := by
        rcases hor6 with h0 | h0
        · exact .inl h0
        · exact .inr fun g hg => by rw [h0] at hg; injection hg with hg; omega
      have ho6 := hO6.setOther (p := ⟨L, 2, none⟩) (hO6.ne_ hh6 (by decide)) (.slice A6 (k + 1) c6)
      have hw6 := five_set2 hh6 (.slice A6 (k + 1) c6)
      have HSV := Lib.hid hsv
      have HLEN2 := Lib.hid hlen
      clear hsv hlen
      go_wp2_with fail
      go_ret
      exact ⟨o6, rfl, ⟨g1, by rw [HLEN2.out]; have := HK1.out; omega, A6, c6, by rw [HLEN2.out]; exact hw6, by rw [HLEN2.out, HSV.out]; exact ho6⟩, hn6, (k5.wide (T := fun k => k = L ∨ own = some k)).trans kf (fun i _ e => e)⟩
    refine AllReadyH.cons rfl (fun K hK => ?_) ?_
    · skip
      go_simp
      refine hK.out _ _ ?_ (fun hHeld => ?_)
      · (first | exact c1 | exact b1 | exact d1 | exact e1 | exact e1s _)
      clear hK K
      try simp only [Act.put, List.setIfInBounds_toArray, List.set_cons_zero, List.set_cons_succ]
      refine wpAnyH_ready (rs := [4]) (by kernel_rfl) (by simp) ?_
      refine AllReadyH.cons rfl (fun K hK => ?_) AllReadyH.nil
      go_simp
      refine hK.out _ _ ?_ (fun hHeld => ?_)
      · (first | exact c1 | exact b1 | exact d1 | exact e1 | exact e1s _)
      clear hK K
      try simp only [Act.put, List.setIfInBounds_toArray, List.set_cons_zero, List.set_cons_succ]
      refine take_at (i := 11) (some 53) (v := ?_) rfl rfl (by kernel_rfl) (by kernel_rfl) (by kernel_rfl) (fun _ _ _ h => h) (Or.inl ⟨by rfl, ?_⟩) (by assumption) ?_
      rotate_left
      · (intro wx hSw; go_simp; try (with_reducible rfl))
      try simp only [Act.put, List.setIfInBounds_toArray, List.set_cons_zero, List.set_cons_succ]
      refine wpAnyH_ready (rs := [14]) (by kernel_rfl) (by simp) ?_
      refine AllReadyH.cons rfl (fun K hK => ?_) AllReadyH.nil
      refine step_append rfl _ _ 22 22 rfl 9 16 strsApp own B k cap (sv (rs.take k)) [.string s] _ rfl rfl (by first | exact hOb | exact hOc) (by first | exact Src.slice hsl | exact Src.slice hsm) (by intro u hu; simp at hu; subst hu; rfl) (k + 1) rfl (by have := HK1.out; omega) (by have := HK1.out; omega) ?_
      intro o6 A6 c6 w6 hO6 hor6 hc6
      go_simp
      have hh6 : w6.heap[L]? = some (.cells #[.pointer (some ⟨D, 0, none⟩), .int .i64 (f : Int), .slice B rs.length cap, .string snap, .string note] 62 (0, 0)) := by first | exact hc6.heap hhb (fun e => HOL.out L e rfl) | exact hc6.heap hhc (fun e => HOL.out L e rfl)
      obtain ⟨⟨_, e1, e2, _, _⟩, hf6⟩ := five_cells hh6
      have ff6 := hf6 2
      have e1s : ∀ u, (w6.setCell ⟨L, 2, none⟩ u).cell? ⟨L, 1, none⟩ = some (.int .i64 (f : Int)) := fun u => (five_cells (five_set2 hh6 u)).1.2.1
      refine hK.out _ _ ?_ (fun hHeld => ?_)
      · (first | exact c1 | exact b1 | exact d1 | exact e1 | exact e1s _)
      clear hK K
      try simp only [Act.put, List.setIfInBounds_toArray, List.set_cons_zero, List.set_cons_succ]
      refine take_at (i := 15) (some 57) (v := ?_) rfl rfl (by kernel_rfl) (by kernel_rfl) (by kernel_rfl) (fun _ _ _ h => h) (Or.inl ⟨by rfl, ?_⟩) (by assumption) ?_
      rotate_left
      · (intro wx hSw; go_simp; try (with_reducible rfl))
      try simp only [Act.put, List.setIfInBounds_toArray, List.set_cons_zero, List.set_cons_succ]
      refine take_at (i := 16) (some 58) (v := ?_) rfl rfl (by kernel_rfl) (by kernel_rfl) (by kernel_rfl) (fun _ _ _ h => h) (Or.inl ⟨by rfl, ?_⟩) (by assumption) ?_
      rotate_left
      · (intro wx hSw; go_simp; try (with_reducible rfl))
      try simp only [Act.put, List.setIfInBounds_toArray, List.set_cons_zero, List.set_cons_succ]
      refine wpAnyH_ready (rs := [17]) (by kernel_rfl) (by simp) ?_
      refine AllReadyH.cons rfl (fun K hK => ?_) AllReadyH.nil
      go_simp
      refine hK.out _ _ ?_ (fun hHeld => ?_)
      · (first | exact c1 | exact b1 | exact d1 | exact e1 | exact e1s _)
      clear hK K
      try simp only [Act.put, List.setIfInBounds_toArray, List.set_cons_zero, List.set_cons_succ]
      refine wpAnyH_done (by kernel_rfl) ?_ _
      have kf : Chg (fun i => i = L ∨ own = some i) w5b (w6.setCell ⟨L, 2, none⟩ (.slice A6 (k + 1) c6)) := by first | exact ((kb.wide (T := fun i => i = L ∨ own = some i)).trans hc6 (fun i _ e => .inr e)).setIn (.inl rfl) _ _ | exact ((kc.wide (T := fun i => i = L ∨ own = some i)).trans hc6 (fun i _ e => .inr e)).setIn (.inl rfl) _ _
      have zb := kb.size
      have zc := kc.size
      have z5 := k5.size
      have hlen : (rs.take k ++ [s]).length = k + 1 := by rw [List.length_append, List.length_take, Nat.min_eq_left HK.out]; rfl
      have hsv : sv (rs.take k ++ [s]) = sv (rs.take k) ++ [.string s] := by simp [sv]
      have hn6 : o6 = own ∨ ∀ g, o6 = some g → w.heap.size ≤ g := by
        rcases hor6 with h0 | h0
        · exact .inl h0
        · exact .inr fun g hg => by rw [h0] at hg; injection hg with hg; omega
      have ho6 := hO6.setOther (p := ⟨L, 2, none⟩) (hO6.ne_ hh6 (by decide)) (.slice A6 (k + 1) c6)
      have hw6 := five_set2 hh6 (.slice A6 (k + 1) c6)
      have HSV := Lib.hid hsv
      have HLEN2 := Lib.hid hlen
      clear hsv hlen
      go_wp2_with fail
      go_ret
      exact ⟨o6, rfl, ⟨g1, by rw [HLEN2.out]; have := HK1.out; omega, A6, c6, by rw [HLEN2.out]; exact hw6, by rw [HLEN2.out, HSV.out]; exact ho6⟩, hn6, (k5.wide (T := fun k => k = L ∨ own = some k)).trans kf (fun i _ e => e)⟩
    exact AllReadyH.nil
theorem recall_calls {w : World} {L D : Nat} {own : Option Nat} {t t' : LSt} {e : Ent} {S : Nat → Prop} {A : Option Addr} {m c : Nat} (h : LogAt w L D own t.f t.rs t.snap t.note)
    (hq : Cs w S A m (bv e.bytes)) (hS : ∀ k, S k → k < w.heap.size) (hmc : m ≤ c) (hc : c ≤ 9223372036854775807) (hs : e.size ≤ 80000000) (hd : rdo t e = some t') (hl : t.rs.length < 1000000) :
    Calls Try.prog 39 #[.pointer (some ⟨L, 0, none⟩), .slice A m c] w (Recalled w L D own t') := by
  obtain ⟨f, rs, snap, note⟩ := t
  have hf : f ≤ 1073741824 := h.1
  simp only at h hl
  cases e with
  | put n s =>
    simp only [rdo] at hd
    split at hd
    · rename_i hn
      injection hd with hd
      subst hd
      have hx : ((n : Nat) : Int) = (f : Int) + ((n - f : Nat) : Int) := by omega
      exact recall_put (k := n - f) h hq hS hmc hc hs (by omega) (by omega) (by omega) (by omega) hx
    · cases hd
  | note s =>
    simp only [rdo] at hd
    injection hd with hd
    subst hd
    exact recall_note h hq hS hmc hc hs (by omega) (by omega)
  | base n s =>
    simp only [rdo] at hd
    split at hd
    · rename_i hn
      injection hd with hd
      subst hd
      have := recall_base (n := (n : Int)) h hq hS hmc hc hs (by omega) (by omega) (by omega) (by omega)
      rwa [Int.toNat_natCast] at this
    · cases hd
end Go.Proofs.Ytlnjadnddldjeaa
