/-
  WireSizes: a Byte has one byte, a Short two, a Long eight, a Text two and its own; each read leaves so many fewer: the walk through the law.
-/
import Derived.Test.YtiibkbkcncmjoaaWireFew
namespace Go.Proofs.Ytiibkbkcncmjoaa
open Go.RowKit
set_option linter.unusedVariables false
set_option linter.unusedSimpArgs false

/-- the reads of what was written, one behind the other -/
theorem sizes_reads (a b c t s : List UInt8) (ha : a.length = 1) (hb : b.length = 2) (hc : c.length = 8) (ht : t = le 2 s.length) (hs : s.length ≤ 65535) :
    rtake (a ++ (b ++ (c ++ (t ++ s)))) 1 ⟨0, 0, 0⟩ = (a, ⟨1, 0, 0⟩) ∧ rtake (a ++ (b ++ (c ++ (t ++ s)))) 2 ⟨1, 0, 0⟩ = (b, ⟨3, 0, 0⟩) ∧ rtake (a ++ (b ++ (c ++ (t ++ s)))) 8 ⟨3, 0, 0⟩ = (c, ⟨11, 0, 0⟩) ∧
      rtext (a ++ (b ++ (c ++ (t ++ s)))) (s.length : Int) ⟨11, 0, 0⟩ = (s, ⟨13 + s.length, 0, 0⟩) ∧ (a ++ (b ++ (c ++ (t ++ s)))).length = 13 + s.length := by
  subst ht
  refine ⟨rtake_at (pre := []) rfl rfl ha.symm, rtake_at (pre := a) rfl ha.symm hb.symm, rtake_at (pre := a ++ b) (x := c) (post := le 2 s.length ++ s) (by simp) (by simp [ha, hb]) hc.symm, ?_, ?_⟩
  · rw [rtext_at (pre := a ++ b ++ c) (s := s) (post := []) (by simp) (by simp [ha, hb, hc]) (by omega) (by omega)]
  · simp [ha, hb, hc, le_length]; omega
theorem rleft_at {l : List UInt8} {n p : Nat} (h : l.length = n) (hp : p ≤ n) : rleft l ⟨p, 0, 0⟩ = (n : Int) - (p : Int) := by
  rw [rleft, if_pos rfl, h]; show ((n - p : Nat) : Int) = _; omega

set_option maxRecDepth 100000 in
set_option maxHeartbeats 4000000 in
theorem sizes_walk {w : World} {n wide : Int} {s : ByteArray} (hn : -9223372036854775808 ≤ n ∧ n ≤ 9223372036854775807) (hw : -9223372036854775808 ≤ wide ∧ wide ≤ 9223372036854775807) (hs : s.size ≤ 9223372036854775807) :
    Calls Try.prog 6 #[.int .i64 n, .int .i64 wide, .string s] w (Holds1 w) := by
  have hf := few_size s
  have HF := Lib.hid (few_calls w s hs)
  generalize few s = f at hf HF
  have hfl : f.data.toList.length = f.size := by rw [Array.length_toList]; rfl
  obtain ⟨k, hk⟩ : ∃ k, f.size = k := ⟨_, rfl⟩
  have hk' : k ≤ 65535 := by omega
  have hread := sizes_reads (le 1 (u64 n)) (le 2 (u64 n)) (le 8 (u64 wide)) (le 2 f.size) f.data.toList (le_length _ _) (le_length _ _) (le_length _ _) (by rw [hfl]) (by omega)
  rw [hfl] at hread
  have e2 : (([] : List UInt8) ++ le 1 (u64 n) ++ le 2 (u64 n) ++ le 8 (u64 wide) ++ (le 2 f.size ++ f.data.toList)) = le 1 (u64 n) ++ (le 2 (u64 n) ++ (le 8 (u64 wide) ++ (le 2 f.size ++ f.data.toList))) := by simp
  have E2 := Lib.hid e2
  have l1 : Hid ((([] : List UInt8) ++ le 1 (u64 n)).length = 1) := Lib.hid (by simp [le_length])
  have l2 : Hid ((([] : List UInt8) ++ le 1 (u64 n) ++ le 2 (u64 n)).length = 3) := Lib.hid (by simp [le_length])
  have l3 : Hid ((([] : List UInt8) ++ le 1 (u64 n) ++ le 2 (u64 n) ++ le 8 (u64 wide)).length = 11) := Lib.hid (by simp [le_length])
  have HR := Lib.hid hread
  have HK := Lib.hid hk
  clear hread e2 hf hk hfl
  go_enter Try.func6, Try.ntmps6
  go_wp2_with fail
  refine HF.out.mono ?_
  rintro e w0 ⟨rfl, rfl⟩
  go_wp2_with fail
  refine (NewWriter_calls (fun k => w.heap.size ≤ k) w (Nat.le_refl _)).mono ?_
  rintro e w1 ⟨rfl, hd1, hc1⟩
  obtain ⟨D, hD⟩ : ∃ D, w.heap.size = D := ⟨_, rfl⟩
  have hz1 := hc1.size
  rw [hD] at hd1 hz1 ⊢
  have a1 : Chg (fun k => D ≤ k) w w1 := hc1.wide
  go_wp2_with fail
  refine (WByte_calls hd1 (fun k hk => by omega) n (by decide)).mono ?_
  rintro e w2 ⟨rfl, hd2, hc2⟩
  have a2 := a1.trans hc2 (fun _ _ h => h)
  have hz2 := hc2.size
  clear hd1 a1
  go_wp2_with fail
  refine (Done_calls hd2 (by rw [l1.out]; decide)).mono ?_
  rw [l1.out]
  rintro e w3 ⟨o3, A3, c3, rfl, -, -, hc3⟩
  have hd3 := hd2.keep hc3
  have a3 := a2.trans hc3 (fun _ _ h => h.elim)
  have hz3 := hc3.size
  clear hd2 a2
  go_wp2_with fail
  refine (WShort_calls hd3 (fun k hk => by omega) n (by rw [l1.out]; decide)).mono ?_
  rintro e w4 ⟨rfl, hd4, hc4⟩
  have a4 := a3.trans hc4 (fun _ _ h => h)
  have hz4 := hc4.size
  clear hd3 a3
  go_wp2_with fail
  refine (Done_calls hd4 (by rw [l2.out]; decide)).mono ?_
  rw [l2.out]
  rintro e w5 ⟨o5, A5, c5, rfl, -, -, hc5⟩
  have hd5 := hd4.keep hc5
  have a5 := a4.trans hc5 (fun _ _ h => h.elim)
  have hz5 := hc5.size
  clear hd4 a4
  go_wp2_with fail
  refine (WLong_calls hd5 (fun k hk => by omega) wide (by rw [l2.out]; decide)).mono ?_
  rintro e w6 ⟨rfl, hd6, hc6⟩
  have a6 := a5.trans hc6 (fun _ _ h => h)
  have hz6 := hc6.size
  clear hd5 a5
  go_wp2_with fail
  refine (Done_calls hd6 (by rw [l3.out]; decide)).mono ?_
  rw [l3.out]
  rintro e w7 ⟨o7, A7, c7, rfl, -, -, hc7⟩
  have hd7 := hd6.keep hc7
  have a7 := a6.trans hc7 (fun _ _ h => h.elim)
  have hz7 := hc7.size
  clear hd6 a6
  go_wp2_with fail
  refine (WText_calls hd7 (fun k hk => by omega) f (by rw [l3.out, HK.out]; omega)).mono ?_
  rintro e w8 ⟨rfl, hd8, hc8⟩
  rw [E2.out] at hd8
  have a8 := a7.trans hc8 (fun _ _ h => h)
  have hz8 := hc8.size
  clear hd7 a7
  obtain ⟨L, hL⟩ : ∃ L, le 1 (u64 n) ++ (le 2 (u64 n) ++ (le 8 (u64 wide) ++ (le 2 f.size ++ f.data.toList))) = L := ⟨_, rfl⟩
  have hread := HR.out
  rw [hL, HK.out] at hread
  rw [hL] at hd8
  obtain ⟨q1, q2, q3, q4, q5⟩ := hread
  have Q1 := Lib.hid q1
  have Q2 := Lib.hid q2
  have Q3 := Lib.hid q3
  have Q4 := Lib.hid q4
  have Q5 := Lib.hid q5
  clear q1 q2 q3 q4 q5 hL
  go_wp2_with fail
  refine (Done_calls hd8 (by rw [Q5.out]; omega)).mono ?_
  rw [Q5.out]
  rintro e w9 ⟨o9, A9, c9, rfl, hown9, -, hc9⟩
  have a9 := a8.trans hc9 (fun _ _ h => h.elim)
  have hz9 := hc9.size
  clear hd8 a8
  go_wp2_with fail
  refine (NewReader_calls (fun k => w9.heap.size ≤ k) hown9.cs (by omega) (fun k hk => hk)).mono ?_
  rintro e w10 ⟨R, rfl, hR, r1, hc10⟩
  have a10 := a9.trans hc10 (fun _ _ h => h.elim)
  have hz10 := hc10.size
  have HRV := r1.inV
  clear hown9 a9
  have hsz : (f.size : Int) = (k : Int) := by rw [HK.out]
  have hb13 : ((((13 + k : Nat) : Int)) != (13 : Int) + (k : Int)) = false := by simp
  have hw13 := IntWalk.i64_in ((13 : Int) + (k : Int)) (by omega)
  go_wp2_with fail
  refine (RByte_calls r1).mono ?_
  rintro e w11 ⟨rfl, r2, hc11⟩
  have a11 := a10.trans hc11 (fun _ _ h => by omega)
  rw [Q1.out] at r2 ⊢
  clear r1 a10
  go_wp2_with fail
  refine (Left_calls r2).mono ?_
  rintro e w12 ⟨rfl, d12, rfl⟩
  rw [rleft_at Q5.out (by omega)]
  have r3 := r2.keep ((Chg.refl _ w11).drewN d12)
  have a12 := a11.drewN d12
  clear r2 a11
  go_wp2_with fail
  refine (RShort_calls r3).mono ?_
  rintro e w13 ⟨rfl, r4, hc13⟩
  rw [Q2.out] at r4 ⊢
  have a13 := a12.trans hc13 (fun _ _ h => by omega)
  clear r3 a12
  go_wp2_with fail
  refine (Left_calls r4).mono ?_
  rintro e w14 ⟨rfl, d14, rfl⟩
  rw [rleft_at Q5.out (by omega)]
  have r5 := r4.keep ((Chg.refl _ w13).drewN d14)
  have a14 := a13.drewN d14
  clear r4 a13
  go_wp2_with fail
  refine (RLong_calls r5).mono ?_
  rintro e w15 ⟨rfl, r6, hc15⟩
  rw [Q3.out] at r6 ⊢
  have a15 := a14.trans hc15 (fun _ _ h => by omega)
  clear r5 a14
  go_wp2_with fail
  refine (Left_calls r6).mono ?_
  rintro e w16 ⟨rfl, d16, rfl⟩
  rw [rleft_at Q5.out (by omega)]
  have r7 := r6.keep ((Chg.refl _ w15).drewN d16)
  have a16 := a15.drewN d16
  clear r6 a15
  go_wp2_with fail
  refine (RText_calls r7 (k : Int)).mono ?_
  rintro e w17 ⟨rfl, r8, hc17⟩
  rw [Q4.out] at r8 ⊢
  have a17 := a16.trans hc17 (fun _ _ h => by omega)
  clear r7 a16
  go_wp2_with fail
  refine (Left_calls r8).mono ?_
  rintro e w18 ⟨rfl, d18, rfl⟩
  rw [rleft_at Q5.out (Nat.le_refl _), Int.sub_self]
  have a18 := a17.drewN d18
  clear r8 a17
  have b1 : ((13 : Int) + (k : Int) - 1 == ((13 + k : Nat) : Int) - 1) = true := by simp
  have b2 : (((13 + k : Nat) : Int) - ((1 : Nat) : Int) == ((13 + k : Nat) : Int) - 1) = true := by simp
  have b3 : (((13 + k : Nat) : Int) - ((3 : Nat) : Int) == ((13 + k : Nat) : Int) - 3) = true := by simp
  have b4 : (((13 + k : Nat) : Int) - ((11 : Nat) : Int) == (2 : Int) + (k : Int)) = true := by simp; omega
  go_wp2_with fail
  refine (known1 _).mono ?_
  rintro e w25 ⟨rfl, hc25⟩
  go_wp2_with fail
  go_ret
  exact ⟨rfl, (a18.trans hc25 (fun _ _ h => h.elim)).new fun k hk h => by omega⟩
end Go.Proofs.Ytiibkbkcncmjoaa
