/-
  Contracts of the document's writing of numbers and texts (confluenceref1: Byte, Short, Long, Text).
-/
import Derived.Test.YtiibkbkcncmjoaaWire
namespace Go.Proofs.Ytiibkbkcncmjoaa
open Go.RowKit
set_option linter.unusedVariables false
set_option linter.unusedSimpArgs false

theorem bv_le1 (n : Int) : [Value.int .u8 (n % 256)] = bv (le 1 (u64 n)) := by
  simp only [le, bv, List.map_cons, List.map_nil, byte_nat]
  congr 2
  unfold u64; omega
theorem bv_le2 (n : Int) : [Value.int .u8 (n % 256), Value.int .u8 (n / 256 % 256)] = bv (le 2 (u64 n)) := by
  simp only [le, bv, List.map_cons, List.map_nil, byte_nat]
  congr 2
  · unfold u64; omega
  · congr 2
    unfold u64; omega

/-- the first half: a copy of what came in, in memory of its own -/
theorem copied {w w1 : World} {o1 : Option Nat} (hal : Chg (fun _ => False) w (w.alloc (.cells #[] 5))) (hor1 : o1 = none ∨ o1 = some (w.heap.size + 1)) (hc1 : Chg (fun _ => False) (w.alloc (.cells #[] 5)) w1) :
    Chg (fun _ => False) w w1 ∧ ∀ g, o1 = some g → w.heap.size ≤ g := by
  refine ⟨hal.trans hc1 (fun i hi hf => hf), fun g hg => ?_⟩
  rcases hor1 with h0 | h0
  · rw [h0] at hg; cases hg
  · rw [h0] at hg; injection hg with hg; omega

set_option maxHeartbeats 400000 in
theorem RefByte_calls {w : World} {S : Nat → Prop} {A : Option Addr} {n c : Nat} {l : List UInt8} (h : Cs w S A n (bv l)) (m : Int) (hn : n + 1 ≤ 140737488355328) :
    Calls Try.prog 53 #[.slice A n c, .int .i64 m] w (Cloned w (n + 1) (l ++ le 1 (u64 m))) := by
  have hl : l.length = n := by rw [← bv_length]; exact h.1
  have HL := Lib.hid hl
  clear hl
  have hal : Chg (fun _ => False) w (w.alloc (.cells #[] 5)) := (Chg.refl (fun _ => False) w).alloc _
  have hoc := h.chg hal (fun _ _ _ hf => hf)
  go_enter Try.func53, Try.ntmps53
  go_wp2_with (at_builtin; refine wpList_append rfl _ _ 22 22 rfl 5 1 bytesApp none _ 0 0 [] (bv l) _ rfl rfl (Own.nil_ _ _ _) (Src.slice hoc) (bv_one l) n ?_ (by omega) (by omega) ?_)
  · rw [bv_length, HL.out]; omega
  intro o1 A1 cap1 w1 hown1 hor1 hc1
  obtain ⟨hc01, hn1⟩ := copied hal hor1 hc1
  have hsrc := Src.slice (P := Try.prog) (c := 1) (Own.fresh w1 [.int .u8 (m % 256)] 5 (by simp)).cs
  have hal2 := hown1.chg ((Chg.refl (fun _ => False) w1).alloc (.cells #[.int .u8 (m % 256)] 5)) (fun _ _ h => h)
  go_wp2_with (at_builtin; refine wpList_append rfl _ _ 22 22 rfl 5 1 bytesApp o1 A1 n cap1 (bv l) [.int .u8 (m % 256)] _ rfl rfl hal2 hsrc (fun u hu => by rw [List.mem_singleton.1 hu]; rfl) (n + 1) rfl (by omega) (by omega) ?_)
  intro own' A' cap' w' hown hor hchg
  go_wp2_with fail
  go_ret
  have hc02 : Chg (fun _ => False) w w' := (hc01.alloc _).trans hchg (fun i hi h => by have := hn1 i h; omega)
  refine ⟨own', A', cap', rfl, by rw [bv_append, ← bv_le1]; exact hown, fun g hg => ?_, hc02⟩
  rcases hor with h0 | h0
  · rw [h0] at hg; exact hn1 g hg
  · rw [h0] at hg; simp at hg; have := hc01.size; omega

set_option maxHeartbeats 400000 in
theorem RefShort_calls {w : World} {S : Nat → Prop} {A : Option Addr} {n c : Nat} {l : List UInt8} (h : Cs w S A n (bv l)) (m : Int) (hm : -9223372036854775808 ≤ m ∧ m ≤ 9223372036854775807) (hn : n + 2 ≤ 140737488355328) :
    Calls Try.prog 51 #[.slice A n c, .int .i64 m] w (Cloned w (n + 2) (l ++ le 2 (u64 m))) := by
  have hl : l.length = n := by rw [← bv_length]; exact h.1
  have HL := Lib.hid hl
  clear hl
  have hal : Chg (fun _ => False) w (w.alloc (.cells #[] 5)) := (Chg.refl (fun _ => False) w).alloc _
  have hoc := h.chg hal (fun _ _ _ hf => hf)
  go_enter Try.func51, Try.ntmps51
  go_wp2_with (at_builtin; refine wpList_append rfl _ _ 22 22 rfl 5 1 bytesApp none _ 0 0 [] (bv l) _ rfl rfl (Own.nil_ _ _ _) (Src.slice hoc) (bv_one l) n ?_ (by omega) (by omega) ?_)
  · rw [bv_length, HL.out]; omega
  intro o1 A1 cap1 w1 hown1 hor1 hc1
  obtain ⟨hc01, hn1⟩ := copied hal hor1 hc1
  have hsrc := Src.slice (P := Try.prog) (c := 2) (Own.fresh w1 [.int .u8 (m % 256), .int .u8 (m / 256 % 256)] 5 (by simp)).cs
  have hal2 := hown1.chg ((Chg.refl (fun _ => False) w1).alloc (.cells #[.int .u8 (m % 256), .int .u8 (m / 256 % 256)] 5)) (fun _ _ h => h)
  go_wp2_with (at_builtin; refine wpList_append rfl _ _ 22 22 rfl 5 1 bytesApp o1 A1 n cap1 (bv l) [.int .u8 (m % 256), .int .u8 (m / 256 % 256)] _ rfl rfl hal2 hsrc (fun u hu => by rcases List.mem_cons.1 hu with rfl | hu; rfl; rw [List.mem_singleton.1 hu]; rfl) (n + 2) rfl (by omega) (by omega) ?_)
  intro own' A' cap' w' hown hor hchg
  go_wp2_with fail
  go_ret
  have hc02 : Chg (fun _ => False) w w' := (hc01.alloc _).trans hchg (fun i hi h => by have := hn1 i h; omega)
  refine ⟨own', A', cap', rfl, by rw [bv_append, ← bv_le2]; exact hown, fun g hg => ?_, hc02⟩
  rcases hor with h0 | h0
  · rw [h0] at hg; exact hn1 g hg
  · rw [h0] at hg; simp at hg; have := hc01.size; omega

set_option maxHeartbeats 400000 in
theorem RefText_calls {w : World} {S : Nat → Prop} {A : Option Addr} {n c : Nat} {l : List UInt8} (h : Cs w S A n (bv l)) (s : ByteArray) (hn : n + 2 + s.size ≤ 140737488355328) :
    Calls Try.prog 18 #[.slice A n c, .string s] w (Cloned w (n + 2 + s.size) (l ++ (le 2 s.size ++ s.data.toList))) := by
  have hsh : Calls Try.prog 51 #[.slice A n c, .int .i64 (s.size : Int)] w (Cloned w (n + 2) (l ++ le 2 s.size)) := by
    have e : u64 (s.size : Int) = s.size := by unfold u64; omega
    have := RefShort_calls (c := c) h (s.size : Int) (by omega) (by omega)
    rwa [e] at this
  have H := Lib.hid hsh
  clear hsh h
  go_enter Try.func18, Try.ntmps18
  go_wp2_with fail
  refine H.out.mono ?_
  rintro e w1 ⟨o1, A1, cap1, rfl, hown1, hn1, hc1⟩
  have hse : s.data.toList.length = s.size := by rw [Array.length_toList]; rfl
  have HN2 : Hid ((bv s.data.toList).length = s.size) := Lib.hid (by rw [bv_length, hse])
  clear hse
  have hsrc := Src.string (P := Try.prog) (w := w1) s
  rw [bv_of_str] at hsrc
  go_wp2_with (at_builtin; refine wpList_append rfl _ _ 22 9 rfl 5 1 stringApp o1 A1 (n + 2) cap1 _ (bv s.data.toList) _ rfl rfl hown1 hsrc (bv_one _) (n + 2 + s.size) ?_ (by omega) (by omega) ?_)
  · rw [HN2.out]
  intro own' A' cap' w' hown hor hchg
  go_wp2_with fail
  go_ret
  have hc02 : Chg (fun _ => False) w w' := hc1.trans hchg (fun i hi h => by have := hn1 i h; omega)
  refine ⟨own', A', cap', rfl, by rw [← List.append_assoc, bv_append]; exact hown, fun g hg => ?_, hc02⟩
  rcases hor with h0 | h0
  · rw [h0] at hg; exact hn1 g hg
  · rw [h0] at hg; injection hg with hg; have := hc1.size; omega

theorem grown_by {w wr w' : World} {own own' : Option Nat} {o : Obj} (hc2 : Chg (fun _ => False) w wr) (HN : Hid (∀ g, own = some g → w.heap.size ≤ g)) (hor : own' = own ∨ own' = some (wr.heap.size + 1)) (hchg : Chg (fun k => own = some k) (wr.alloc o) w') :
    (∀ g, own' = some g → w.heap.size ≤ g) ∧ Chg (fun _ => False) w w' := by
  have hsz := hc2.size
  refine ⟨fun g hg => ?_, (hc2.alloc o).trans hchg (fun i hi h => by have := HN.out i h; omega)⟩
  rcases hor with h0 | h0
  · rw [h0] at hg; exact HN.out g hg
  · rw [h0] at hg; injection hg with hg; omega
theorem le_snoc (i n : Nat) : le (i + 1) n = le i n ++ [UInt8.ofNat (n / 256 ^ i % 256)] := by
  rw [le_split i 1 n]; rfl
theorem long_byte (m : Int) (i : Nat) (v : Int) (hv : v = m / (256 ^ i : Nat) % 256) (hi : i < 8) : bv [UInt8.ofNat (u64 m / 256 ^ i % 256)] = [Value.int .u8 v] := by
  subst hv
  simp only [bv, List.map_cons, List.map_nil, byte_nat]
  congr 2
  have hc : i = 0 ∨ i = 1 ∨ i = 2 ∨ i = 3 ∨ i = 4 ∨ i = 5 ∨ i = 6 ∨ i = 7 := by omega
  unfold u64
  rcases hc with rfl | rfl | rfl | rfl | rfl | rfl | rfl | rfl <;> simp only [Nat.reducePow, Nat.reduceMul] <;> omega

set_option maxHeartbeats 1000000 in
theorem RefLong_calls {w : World} {S : Nat → Prop} {A : Option Addr} {n c : Nat} {l : List UInt8} (h : Cs w S A n (bv l)) (m : Int) (hm : -9223372036854775808 ≤ m ∧ m ≤ 9223372036854775807) (hn : n + 8 ≤ 140737488355328) :
    Calls Try.prog 54 #[.slice A n c, .int .i64 m] w (Cloned w (n + 8) (l ++ le 8 (u64 m))) := by
  have hl : l.length = n := by rw [← bv_length]; exact h.1
  have HL := Lib.hid hl
  clear hl
  have hal : Chg (fun _ => False) w (w.alloc (.cells #[] 5)) := (Chg.refl (fun _ => False) w).alloc _
  have hoc := h.chg hal (fun _ _ _ hf => hf)
  go_enter Try.func54, Try.ntmps54
  go_wp2_with (at_builtin; refine wpList_append rfl _ _ 22 22 rfl 5 1 bytesApp none _ 0 0 [] (bv l) _ rfl rfl (Own.nil_ _ _ _) (Src.slice hoc) (bv_one l) n ?_ (by omega) (by omega) ?_)
  · rw [bv_length, HL.out]; omega
  intro o1 A1 cap1 w1 hown1 hor1 hc1
  obtain ⟨hc01, hn1⟩ := copied hal hor1 hc1
  clear hor1 hc1 hal hoc h
  go_wp2_with fail
  go_loopw [5, 6] (fun v i wr => ∃ (I : Nat) (own : Option Nat) (A : Option Addr) (cap : Nat), I ≤ 8 ∧ i = .int .i64 I ∧ v = .slice A (n + I) cap ∧ Own wr 5 own A (n + I) cap (bv (l ++ le I (u64 m))) ∧ Hid (∀ g, own = some g → w.heap.size ≤ g) ∧ Chg (fun _ => False) w wr) (fun _ i _ => 8 - (intOf i).toNat)
  case atStart => exact ⟨0, o1, A1, cap1, by omega, rfl, rfl, by simpa [le] using hown1, Lib.hid hn1, hc01⟩
  case round =>
    obtain ⟨I, own, A2, cap2, hI, rfl, rfl, hown2, HN2, hc2⟩ := hrel
    by_cases hI8 : I < 8
    · obtain ⟨v, hv⟩ : ∃ v, v = m / (256 ^ I : Nat) % 256 := ⟨_, rfl⟩
      have HB := Lib.hid (long_byte m I v hv hI8)
      have hc : I = 0 ∨ I = 1 ∨ I = 2 ∨ I = 3 ∨ I = 4 ∨ I = 5 ∨ I = 6 ∨ I = 7 := by omega
      rcases hc with rfl | rfl | rfl | rfl | rfl | rfl | rfl | rfl
      · obtain rfl : v = m % 256 := by rw [hv]; simp
        clear hv
        have hsrc := Src.slice (P := Try.prog) (c := 1) (Own.fresh wr [.int .u8 (m % 256)] 5 (by simp)).cs
        have hal2 := hown2.chg ((Chg.refl (fun _ => False) wr).alloc (.cells #[.int .u8 (m % 256)] 5)) (fun _ _ h => h)
        go_wp2_with (at_builtin; refine wpList_append rfl _ _ 22 22 rfl 5 1 bytesApp own A2 (n) cap2 (bv (l ++ le 0 (u64 m))) [.int .u8 (m % 256)] _ rfl rfl hal2 hsrc (fun u hu => by rw [List.mem_singleton.1 hu]; rfl) (n + 1) rfl (by omega) (by omega) ?_)
        intro own' A' cap' w' hown hor hchg
        obtain ⟨hn', hc'⟩ := grown_by hc2 HN2 hor hchg
        rw [← HB.out, ← bv_append, List.append_assoc, ← le_snoc] at hown
        go_wp2_with fail
        go_roundw
        case rel => exact ⟨1, own', A', cap', by omega, rfl, rfl, hown, Lib.hid hn', hc'⟩
        case measure => simp [intOf]
      · obtain rfl : v = m / 256 % 256 := by rw [hv]; rfl
        clear hv
        have hsrc := Src.slice (P := Try.prog) (c := 1) (Own.fresh wr [.int .u8 (m / 256 % 256)] 5 (by simp)).cs
        have hal2 := hown2.chg ((Chg.refl (fun _ => False) wr).alloc (.cells #[.int .u8 (m / 256 % 256)] 5)) (fun _ _ h => h)
        go_wp2_with (at_builtin; refine wpList_append rfl _ _ 22 22 rfl 5 1 bytesApp own A2 (n + 1) cap2 (bv (l ++ le 1 (u64 m))) [.int .u8 (m / 256 % 256)] _ rfl rfl hal2 hsrc (fun u hu => by rw [List.mem_singleton.1 hu]; rfl) (n + 2) rfl (by omega) (by omega) ?_)
        intro own' A' cap' w' hown hor hchg
        obtain ⟨hn', hc'⟩ := grown_by hc2 HN2 hor hchg
        rw [← HB.out, ← bv_append, List.append_assoc, ← le_snoc] at hown
        go_wp2_with fail
        go_roundw
        case rel => exact ⟨2, own', A', cap', by omega, rfl, rfl, hown, Lib.hid hn', hc'⟩
        case measure => simp [intOf]
      · obtain rfl : v = m / 65536 % 256 := by rw [hv]; rfl
        clear hv
        have hsrc := Src.slice (P := Try.prog) (c := 1) (Own.fresh wr [.int .u8 (m / 65536 % 256)] 5 (by simp)).cs
        have hal2 := hown2.chg ((Chg.refl (fun _ => False) wr).alloc (.cells #[.int .u8 (m / 65536 % 256)] 5)) (fun _ _ h => h)
        go_wp2_with (at_builtin; refine wpList_append rfl _ _ 22 22 rfl 5 1 bytesApp own A2 (n + 2) cap2 (bv (l ++ le 2 (u64 m))) [.int .u8 (m / 65536 % 256)] _ rfl rfl hal2 hsrc (fun u hu => by rw [List.mem_singleton.1 hu]; rfl) (n + 3) rfl (by omega) (by omega) ?_)
        intro own' A' cap' w' hown hor hchg
        obtain ⟨hn', hc'⟩ := grown_by hc2 HN2 hor hchg
        rw [← HB.out, ← bv_append, List.append_assoc, ← le_snoc] at hown
        go_wp2_with fail
        go_roundw
        case rel => exact ⟨3, own', A', cap', by omega, rfl, rfl, hown, Lib.hid hn', hc'⟩
        case measure => simp [intOf]
      · obtain rfl : v = m / 16777216 % 256 := by rw [hv]; rfl
        clear hv
        have hsrc := Src.slice (P := Try.prog) (c := 1) (Own.fresh wr [.int .u8 (m / 16777216 % 256)] 5 (by simp)).cs
        have hal2 := hown2.chg ((Chg.refl (fun _ => False) wr).alloc (.cells #[.int .u8 (m / 16777216 % 256)] 5)) (fun _ _ h => h)
        go_wp2_with (at_builtin; refine wpList_append rfl _ _ 22 22 rfl 5 1 bytesApp own A2 (n + 3) cap2 (bv (l ++ le 3 (u64 m))) [.int .u8 (m / 16777216 % 256)] _ rfl rfl hal2 hsrc (fun u hu => by rw [List.mem_singleton.1 hu]; rfl) (n + 4) rfl (by omega) (by omega) ?_)
        intro own' A' cap' w' hown hor hchg
        obtain ⟨hn', hc'⟩ := grown_by hc2 HN2 hor hchg
        rw [← HB.out, ← bv_append, List.append_assoc, ← le_snoc] at hown
        go_wp2_with fail
        go_roundw
        case rel => exact ⟨4, own', A', cap', by omega, rfl, rfl, hown, Lib.hid hn', hc'⟩
        case measure => simp [intOf]
      · obtain rfl : v = m / 4294967296 % 256 := by rw [hv]; rfl
        clear hv
        have hsrc := Src.slice (P := Try.prog) (c := 1) (Own.fresh wr [.int .u8 (m / 4294967296 % 256)] 5 (by simp)).cs
        have hal2 := hown2.chg ((Chg.refl (fun _ => False) wr).alloc (.cells #[.int .u8 (m / 4294967296 % 256)] 5)) (fun _ _ h => h)
        go_wp2_with (at_builtin; refine wpList_append rfl _ _ 22 22 rfl 5 1 bytesApp own A2 (n + 4) cap2 (bv (l ++ le 4 (u64 m))) [.int .u8 (m / 4294967296 % 256)] _ rfl rfl hal2 hsrc (fun u hu => by rw [List.mem_singleton.1 hu]; rfl) (n + 5) rfl (by omega) (by omega) ?_)
        intro own' A' cap' w' hown hor hchg
        obtain ⟨hn', hc'⟩ := grown_by hc2 HN2 hor hchg
        rw [← HB.out, ← bv_append, List.append_assoc, ← le_snoc] at hown
        go_wp2_with fail
        go_roundw
        case rel => exact ⟨5, own', A', cap', by omega, rfl, rfl, hown, Lib.hid hn', hc'⟩
        case measure => simp [intOf]
      · obtain rfl : v = m / 1099511627776 % 256 := by rw [hv]; rfl
        clear hv
        have hsrc := Src.slice (P := Try.prog) (c := 1) (Own.fresh wr [.int .u8 (m / 1099511627776 % 256)] 5 (by simp)).cs
        have hal2 := hown2.chg ((Chg.refl (fun _ => False) wr).alloc (.cells #[.int .u8 (m / 1099511627776 % 256)] 5)) (fun _ _ h => h)
        go_wp2_with (at_builtin; refine wpList_append rfl _ _ 22 22 rfl 5 1 bytesApp own A2 (n + 5) cap2 (bv (l ++ le 5 (u64 m))) [.int .u8 (m / 1099511627776 % 256)] _ rfl rfl hal2 hsrc (fun u hu => by rw [List.mem_singleton.1 hu]; rfl) (n + 6) rfl (by omega) (by omega) ?_)
        intro own' A' cap' w' hown hor hchg
        obtain ⟨hn', hc'⟩ := grown_by hc2 HN2 hor hchg
        rw [← HB.out, ← bv_append, List.append_assoc, ← le_snoc] at hown
        go_wp2_with fail
        go_roundw
        case rel => exact ⟨6, own', A', cap', by omega, rfl, rfl, hown, Lib.hid hn', hc'⟩
        case measure => simp [intOf]
      · obtain rfl : v = m / 281474976710656 % 256 := by rw [hv]; rfl
        clear hv
        have hsrc := Src.slice (P := Try.prog) (c := 1) (Own.fresh wr [.int .u8 (m / 281474976710656 % 256)] 5 (by simp)).cs
        have hal2 := hown2.chg ((Chg.refl (fun _ => False) wr).alloc (.cells #[.int .u8 (m / 281474976710656 % 256)] 5)) (fun _ _ h => h)
        go_wp2_with (at_builtin; refine wpList_append rfl _ _ 22 22 rfl 5 1 bytesApp own A2 (n + 6) cap2 (bv (l ++ le 6 (u64 m))) [.int .u8 (m / 281474976710656 % 256)] _ rfl rfl hal2 hsrc (fun u hu => by rw [List.mem_singleton.1 hu]; rfl) (n + 7) rfl (by omega) (by omega) ?_)
        intro own' A' cap' w' hown hor hchg
        obtain ⟨hn', hc'⟩ := grown_by hc2 HN2 hor hchg
        rw [← HB.out, ← bv_append, List.append_assoc, ← le_snoc] at hown
        go_wp2_with fail
        go_roundw
        case rel => exact ⟨7, own', A', cap', by omega, rfl, rfl, hown, Lib.hid hn', hc'⟩
        case measure => simp [intOf]
      · obtain rfl : v = m / 72057594037927936 % 256 := by rw [hv]; rfl
        clear hv
        have hsrc := Src.slice (P := Try.prog) (c := 1) (Own.fresh wr [.int .u8 (m / 72057594037927936 % 256)] 5 (by simp)).cs
        have hal2 := hown2.chg ((Chg.refl (fun _ => False) wr).alloc (.cells #[.int .u8 (m / 72057594037927936 % 256)] 5)) (fun _ _ h => h)
        go_wp2_with (at_builtin; refine wpList_append rfl _ _ 22 22 rfl 5 1 bytesApp own A2 (n + 7) cap2 (bv (l ++ le 7 (u64 m))) [.int .u8 (m / 72057594037927936 % 256)] _ rfl rfl hal2 hsrc (fun u hu => by rw [List.mem_singleton.1 hu]; rfl) (n + 8) rfl (by omega) (by omega) ?_)
        intro own' A' cap' w' hown hor hchg
        obtain ⟨hn', hc'⟩ := grown_by hc2 HN2 hor hchg
        rw [← HB.out, ← bv_append, List.append_assoc, ← le_snoc] at hown
        go_wp2_with fail
        go_roundw
        case rel => exact ⟨8, own', A', cap', by omega, rfl, rfl, hown, Lib.hid hn', hc'⟩
        case measure => simp [intOf]
    · obtain rfl : I = 8 := by omega
      go_wp2_with fail
      go_ret
      exact ⟨own, A2, cap2, rfl, hown2, HN2.out, hc2⟩
end Go.Proofs.Ytiibkbkcncmjoaa
