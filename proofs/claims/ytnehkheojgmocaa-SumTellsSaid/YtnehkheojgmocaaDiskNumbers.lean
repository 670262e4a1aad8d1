/-
  DiskNumbers: chapter 20's runs, and a disk that is full: the walk through the closed sentence.
-/
import Derived.Test.YtnehkheojgmocaaDiskKnown
namespace Go.Proofs.Ytnehkheojgmocaa
open Go.RowKit
set_option linter.unusedVariables false

def zeros (n : Nat) : List UInt8 := List.replicate n 0
theorem zeros_length (n : Nat) : (zeros n).length = n := by simp [zeros]
theorem bv_zeros (n : Nat) : List.replicate n (Value.int .u8 0) = bv (zeros n) := by simp [bv, zeros]
theorem Own.toCs {w : World} {own : Option Nat} {A : Option Addr} {n cap m : Nat} (h : Own w 5 own A n cap (List.replicate m (Value.int .u8 0))) : Cs w (fun k => own = some k) A n (bv (zeros m)) := by
  rw [← bv_zeros]
  exact h.cs
theorem wpList_makeZ {P : Program} {ops : Array Oper} {rest : List Oper} {o : Oper} {a : Act} {w : World} {Q : Exit → Act → World → Prop} (hgd : o.guard = none) (l c : Operand) (t : TypeId) (ho : o.op = .makeSlice t l c)
    (ht : P.underlying t = some (.slice 5)) (hi0 : (P.info? 5).map (fun i => (i.zero, i.size, i.bytes)) = some (some (.int .u8 0), 1, 1))
    (kl kc : IntKind) (L C : Int) (n : Nat) (hl : a.eval l = .int kl L) (hc : a.eval c = .int kc C) (hL : L = (n : Int)) (hC : C = (n : Int)) (b2 : 1 * n ≤ 281474976710656) (b3 : n ≤ 9223372036854775807)
    (k : ∀ w', Cs w' (fun k => some w.heap.size = some k) (some ⟨w.heap.size, 0, none⟩) n (bv (zeros n)) → Chg (fun _ => False) w w' → wpList P ops Q rest (a.put o.dst (.slice (some ⟨w.heap.size, 0, none⟩) n n)) w') :
    wpList P ops Q (o :: rest) a w :=
  wpList_make hgd l c t ho 5 (.int .u8 0) 1 ht hi0 rfl kl kc L C n hl hc hL hC b2 b3 fun w' h1 h2 _ => k w' h1.toCs h2
theorem kept_all (n : Nat) (h : Nat) (hh : h = n) : kept n h 0 = n := by unfold kept; omega

set_option maxRecDepth 100000 in
set_option maxHeartbeats 4000000 in
theorem numbers20 (w : World) : Calls Try.prog 5 #[] w (Holds w) := by
  have kc := fun (w : World) (C : Array Value) (n c : Nat) => Lib.run_convert_bytes_const (P := Try.prog) w 26 5 C n c Try.underlying26 Try.underlying5
  go_enter Try.func5, Try.ntmps5
  go_wp2_with fail
  refine (New_in _).mono ?_
  rintro e w1 ⟨rfl, hd1⟩
  obtain ⟨D, hD⟩ : ∃ D, w.heap.size = D := ⟨_, rfl⟩
  rw [hD] at hd1 ⊢
  have HD := Lib.hid hD
  clear hD
  go_wp2_with fail
  have hd2 := Crash_in 5 hd1
  rw [show kept ([] : List UInt8).length 0 5 = 0 by decide, List.take_zero] at hd2
  refine hd2.mono ?_
  rintro e w2 ⟨rfl, hd2⟩
  go_wp2_with fail
  refine (Append_in (hd2.alloc _) (Cs.new w2 [97, 98, 99] _ (3, 4)) (by decide)).mono ?_
  rintro e w3 ⟨rfl, hd3⟩
  rw [List.nil_append] at hd3
  have hl3 : ([97, 98, 99] : List UInt8).length = 3 := rfl
  generalize ([97, 98, 99] : List UInt8) = T at hd3 hl3
  have HL3 := Lib.hid hl3
  clear hl3
  go_wp2_with (at_make; refine wpList_makeZ rfl _ _ 26 rfl Try.underlying26 (by kernel_rfl) .i64 .i64 _ _ 4194302 rfl rfl (by omega) (by omega) (by omega) (by omega) ?_)
  intro w4 z4 hchg
  have hd4 := hd3.step hchg
  clear hchg
  go_wp2_with fail
  refine (Append_over hd4 (by have := HL3.out; omega)).mono ?_
  rintro e w5 ⟨rfl, rfl⟩
  go_wp2_with (at_make; refine wpList_makeZ rfl _ _ 26 rfl Try.underlying26 (by kernel_rfl) .i64 .i64 _ _ 4194301 rfl rfl (by omega) (by omega) (by omega) (by omega) ?_)
  intro w6 z6 hchg
  have hd6 := hd4.step hchg
  clear hchg
  go_wp2_with fail
  refine (Append_in hd6 z6 (by have := HL3.out; omega)).mono ?_
  rintro e w7 ⟨rfl, hd7⟩
  have hl7 : (T ++ zeros 4194301).length = 4194304 := by rw [List.length_append, zeros_length, HL3.out]
  generalize T ++ zeros 4194301 = U at hd7 hl7
  have HL7 := Lib.hid hl7
  clear hl7
  go_wp2_with fail
  refine (Append_over (hd7.alloc _) (by have := HL7.out; omega)).mono ?_
  rintro e w8 ⟨rfl, rfl⟩
  go_wp2_with (at_make; refine wpList_makeZ rfl _ _ 26 rfl Try.underlying26 (by kernel_rfl) .i64 .i64 _ _ 4194305 rfl rfl (by omega) (by omega) (by omega) (by omega) ?_)
  intro w9 z9 hchg
  have hd9 := (hd7.alloc (.cells #[.int .u8 1] 5)).step hchg
  clear hchg
  go_wp2_with fail
  refine (Swap_full (by omega)).mono ?_
  rintro e w10 ⟨rfl, rfl⟩
  go_wp2_with fail
  refine (Bytes_in hd9).mono ?_
  rintro e w11 ⟨o11, A11, c11, rfl, cs11, hd11⟩
  go_wp2_with fail
  refine (Swap_in (hd11.alloc _) (Cs.new w11 [120] _ (1, 2)) (by decide)).mono ?_
  rintro e w12 ⟨rfl, hd12⟩
  go_wp2_with fail
  refine (Append_in (hd12.alloc _) (Cs.new w12 [121] _ (1, 2)) (by decide)).mono ?_
  rintro e w13 ⟨rfl, hd13⟩
  go_wp2_with fail
  refine (Crash_in 0 hd13).mono ?_
  rintro e w14 ⟨rfl, hd14⟩
  go_wp2_with fail
  refine (Swap_in (x := []) hd14 (S := fun _ => True) Cs.none_ (by decide)).mono ?_
  rintro e w15 ⟨rfl, hd15⟩
  have hn : ((U.length : Int) == 4194304) = true := by have := HL7.out; simp; omega
  go_wp2_with fail
  refine (Bytes_in hd15).mono ?_
  rintro e w16 ⟨o16, A16, c16, rfl, cs16, hd16⟩
  go_wp2_with fail
  refine (Safe_in hd16).mono ?_
  rintro e w17 ⟨rfl, rfl⟩
  go_wp2_with fail
  refine (known20 _).mono ?_
  rintro e w18 ⟨rfl, hk18⟩
  go_wp2_with fail
  go_ret
  exact ⟨rfl, (hd16.step hk18).kept⟩
end Go.Proofs.Ytnehkheojgmocaa
