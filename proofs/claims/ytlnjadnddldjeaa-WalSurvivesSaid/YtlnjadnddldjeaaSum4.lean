/-
  Contracts of package sum: the sum of any bytes, a seal, what is opened.
-/
import Derived.Test.YtlnjadnddldjeaaCrcMath
import Derived.Test.YtlnjadnddldjeaaBytes4
import Derived.Test.YtlnjadnddldjeaaRegion
import Derived.Deep.DeepCutAuto
namespace Go.Proofs.Ytlnjadnddldjeaa
open Go.RowKit
set_option linter.unusedVariables false
set_option linter.unusedSimpArgs false

def csteps : Nat → Nat → Nat
  | 0, c => c
  | k + 1, c => cstep (csteps k c)
theorem csteps8 (c : Nat) : csteps 8 c = cbyte c := rfl
theorem csteps_lt {c : Nat} (h : c < 4294967296) : ∀ k, csteps k c < 4294967296
  | 0 => h
  | k + 1 => cstep_lt (csteps_lt h k)

set_option maxHeartbeats 1000000 in
theorem Crc_calls {w : World} {S : Nat → Prop} {A : Option Addr} {n c : Nat} {l : List UInt8} (h : Cs w S A n (bv l)) (hm : n ≤ 9223372036854775807) :
    Calls Try.prog 59 #[.slice A n c] w fun e w' => e = .returned (.int .u32 (crc l : Int)) ∧ w = w' := by
  have hl : l.length = n := by rw [← bv_length]; exact h.1
  have HL := Lib.hid hl
  clear hl
  go_enter Try.func59, Try.ntmps59
  go_wp2_with fail
  go_loop [3, 9] (fun s i => ∃ k : Nat, k ≤ n ∧ i = .int .i64 k ∧ s = .int .u32 (crun 4294967295 (l.take k) : Int)) (fun _ i => n - (intOf i).toNat)
  case atStart => exact ⟨0, Nat.zero_le _, rfl, rfl⟩
  case round =>
    obtain ⟨k, hk, rfl, rfl⟩ := hrel
    by_cases hlt : k < n
    · have k1 : k < l.length := by have := HL.out; omega
      obtain ⟨b, off, rfl, _, hc⟩ := h.2 (by omega)
      have c1 := hc k _ (bv_get k1)
      have hts : crun 4294967295 (l.take (k + 1)) = cbyte (crun 4294967295 (l.take k) ^^^ l[k].toNat) := by
        rw [List.take_succ_eq_append_getElem k1, crun_snoc]
      have hcl : crun 4294967295 (l.take k) < 4294967296 := crun_lt (by decide)
      have hxl : crun 4294967295 (l.take k) ^^^ l[k].toNat < 4294967296 := xor_byte_lt hcl _
      generalize l[k] = x at c1 hts hxl
      have hx256 : x.toNat < 256 := x.toNat_lt
      generalize crun 4294967295 (l.take k) = C at hts hcl hxl ⊢
      have hw : IntKind.u32.wrap (x.toNat : Int) = (x.toNat : Int) := IntWalk.u32_in _ (by omega)
      have hxor : bits .xor .u32 (C : Int) (x.toNat : Int) = ((C ^^^ x.toNat : Nat) : Int) := u32_xor_nat _ _ hcl (by omega)
      have HC := Lib.hid hc
      have HT := Lib.hid hts
      clear hc hts
      go_wp2_with fail
      clear hw hxor
      generalize C ^^^ x.toNat = C0 at HT hxl ⊢
      go_loop [3, 17] (fun s i => ∃ j : Nat, j ≤ 8 ∧ i = .int .i64 j ∧ s = .int .u32 (csteps j C0 : Int)) (fun _ i => 8 - (intOf i).toNat)
      case atStart => exact ⟨0, Nat.zero_le _, rfl, rfl⟩
      case round =>
        obtain ⟨j, hj, rfl, rfl⟩ := hrel
        by_cases hj8 : j < 8
        · have hV := csteps_lt hxl j
          have hs : csteps (j + 1) C0 = cstep (csteps j C0) := rfl
          generalize csteps j C0 = V at hV hs ⊢
          have hand : bits .and .u32 (V : Int) 1 = ((V % 2 : Nat) : Int) := by
            rw [show (1 : Int) = ((1 : Nat) : Int) from rfl, u32_and_nat _ _ hV (by omega), Nat.and_one_is_mod]
          have hxp : bits .xor .u32 ((V : Int) / 2) 3988292384 = ((V / 2 ^^^ poly : Nat) : Int) := by
            have := u32_xor_nat (V / 2) 3988292384 (by omega) (by omega)
            rwa [show ((V / 2 : Nat) : Int) = (V : Int) / 2 by omega] at this
          by_cases ho : V % 2 = 1
          · have hs1 : cstep V = V / 2 ^^^ poly := by rw [cstep, if_pos ho]
            rw [ho] at hand
            rw [hs1] at hs
            generalize V / 2 ^^^ poly = V1 at hs hxp
            have HS := Lib.hid hs
            clear hs hs1 ho
            go_wp2_with fail
            go_round
            case rel => exact ⟨j + 1, by omega, by go_num, by rw [HS.out]⟩
            case measure => simp [intOf]; omega
          · have ho0 : V % 2 = 0 := by omega
            have hs1 : cstep V = V / 2 := by rw [cstep, if_neg ho]
            rw [ho0] at hand
            rw [hs1] at hs
            have HS := Lib.hid hs
            clear hs hs1 ho ho0
            go_wp2_with fail
            go_round
            case rel => exact ⟨j + 1, by omega, by go_num, by rw [HS.out]; congr 1⟩
            case measure => simp [intOf]; omega
        · have hj8' : j = 8 := by omega
          subst hj8'
          rw [csteps8]
          go_wp2_with fail
          go_round
          case rel => exact ⟨k + 1, by omega, by go_num, by rw [HT.out]⟩
          case measure => simp [intOf]; omega
    · have hkn : k = n := by omega
      have hll : l.take k = l := List.take_of_length_le (by have := HL.out; omega)
      rw [hll]
      have hcl : crun 4294967295 l < 4294967296 := crun_lt (by decide)
      have hfin : bits .xor .u32 IntKind.u32.max (crun 4294967295 l : Int) = (crc l : Int) := by
        have h1 := u32_xor_nat 4294967295 (crun 4294967295 l) (by omega) hcl
        rw [Nat.xor_comm] at h1
        exact h1
      go_wp2_with fail
      go_ret
      exact ⟨rfl, rfl⟩

def b0 (n : Nat) : UInt8 := UInt8.ofNat (n % 256)
theorem b0_nat (n : Nat) : ((b0 n).toNat : Int) = (n : Int) % 256 := by
  have h256 : n % 256 % 256 = n % 256 := Nat.mod_mod _ _
  rw [b0, UInt8.toNat_ofNat', h256]
  omega
theorem bv_le4 (n : Nat) : bv (le4 n) = [.int .u8 ((n : Int) % 256), .int .u8 ((n : Int) / 256 % 256), .int .u8 ((n : Int) / 65536 % 256), .int .u8 ((n : Int) / 16777216 % 256)] := by
  have h (m : Nat) : ((UInt8.ofNat (m % 256)).toNat : Int) = (m : Int) % 256 := b0_nat m
  simp only [le4, bv, List.map_cons, List.map_nil, h]
  simp

theorem Own.new (w : World) (l : List Value) (e : TypeId) (hl : l.length ≤ 9223372036854775807) : Own (w.alloc (.cells l.toArray e)) e (some w.heap.size) (some ⟨w.heap.size, 0, none⟩) l.length l.length l :=
  ⟨rfl, Nat.le_refl _, .inr ⟨w.heap.size, l.toArray, rfl, rfl, heap_alloc_new w _, by simp, by simpa [maxLen] using hl, by simp⟩⟩

/-- a seal in memory of its own -/
theorem Seal_calls {w : World} {S : Nat → Prop} {A : Option Addr} {n c : Nat} {l : List UInt8} (h : Cs w S A n (bv l)) (hm : n ≤ 100000000) :
    Calls Try.prog 56 #[.slice A n c] w (Cloned w (n + 4) (sealed l)) := by
  have hl : l.length = n := by rw [← bv_length]; exact h.1
  have HL := Lib.hid hl
  clear hl
  go_enter Try.func56, Try.ntmps56
  go_wp2_with fail
  refine (Crc_calls h (by omega)).mono ?_
  rintro e w1 ⟨rfl, rfl⟩
  have hown := Own.new w (bv (le4 (crc l))) 5 (by simp [bv_length, le4_length])
  rw [bv_length, le4_length] at hown
  have hcs : Cs (w.alloc (.cells (bv (le4 (crc l))).toArray 5)) S A n (bv l) := h.chg ((Chg.refl (fun _ => False) w).alloc _) (fun _ _ _ hf => hf)
  rw [bv_le4] at hown hcs
  go_wp2_with (at_builtin; refine wpList_append rfl _ _ 31 31 rfl 5 1 bytesApp _ _ 4 4 _ (bv l) _ rfl rfl hown (Src.slice hcs) (bv_one l) (n + 4) ?_ (by omega) (by omega) ?_)
  · rw [bv_length, HL.out]; omega
  · intro own' A' cap' w' hown' hor hchg
    go_wp2_with fail
    go_ret
    refine ⟨own', A', cap', rfl, ?_, fun g hg => ?_, (((Chg.refl (fun _ => False) w).alloc _).trans hchg (fun i hi hf => by have h2 : w.heap.size = i := hf; omega))⟩
    · rw [sealed, bv_append, bv_le4]; exact hown'
    · rcases hor with h0 | h0
      · rw [h0] at hg; simp at hg; omega
      · rw [h0] at hg; simp at hg; omega

/-- what Open leaves -/
def Opened (w : World) (n : Nat) (l : List UInt8) (e : Ending) (w' : World) : Prop :=
  (opens l = true ∧ ∃ own A cap, e = .returned (.tuple #[.slice A (n - 4) cap, .bool true]) ∧ Own w' 5 own A (n - 4) cap (bv (l.drop 4)) ∧ (∀ g, own = some g → w.heap.size ≤ g) ∧ Chg (fun _ => False) w w') ∨
  (opens l = false ∧ e = .returned (.tuple #[.slice none 0 0, .bool false]) ∧ Chg (fun _ => False) w w')

set_option maxRecDepth 100000 in
set_option maxHeartbeats 2000000 in
theorem Open_calls {w : World} {S : Nat → Prop} {A : Option Addr} {n c : Nat} {l : List UInt8} (h : Cs w S A n (bv l)) (hm : n ≤ 100000000) (hnc : n ≤ c) (hcm : c ≤ 9223372036854775807) :
    Calls Try.prog 51 #[.slice A n c] w (Opened w n l) := by
  have hl : l.length = n := by rw [← bv_length]; exact h.1
  have HL := Lib.hid hl
  by_cases h4 : n < 4
  · have ho : opens l = false := by rw [opens, decide_eq_false (by omega)]; rfl
    have HO := Lib.hid ho
    have hdec : decide ((n : Int) < 4) = true := by simp; omega
    clear hl ho
    go_enter Try.func51, Try.ntmps51
    go_wp2_with fail
    go_quiet (fail)
    go_wp2_with fail
    go_ret2
    exact .inr ⟨HO.out, rfl, (Chg.refl _ w).drewN _⟩
  · obtain ⟨b, off, rfl, hb, hcell⟩ := h.2 (by omega)
    have hd4 := h.drop (k := 4) (by omega) hnc
    clear hl hcell
    go_enter Try.func51, Try.ntmps51
    go_wp2_with fail
    go_upto_region 1 with fail
    go_cut [16] (fun s wx => s = .bool (!opens l) ∧ Chg (fun _ => False) w wx)
    case first =>
      have hdr : Chg (fun _ => False) w w.drew := (Chg.refl _ w).drew
      have hdec : decide ((n : Int) < 4) = false := by simp; omega
      have hn4 : (4 : Int) ≤ (n : Int) := by omega
      have hc4 : (4 : Int) ≤ (c : Int) := by omega
      obtain ⟨A4, hA4⟩ : ∃ A4, (if c = 4 then some ⟨b, off, none⟩ else some ⟨b, off + 4, none⟩ : Option Addr) = A4 := ⟨_, rfl⟩
      have hd5 : Cs w.drew S A4 (n - 4) (bv (l.drop 4)) := by
        rw [← hA4, bv_drop]
        simp only [Option.map_some, add_lit'] at hd4
        exact hd4.drew
      refine wp_region_held_drew (S := fun wx => Chg (fun _ => False) w wx) (by kernel_rfl) hdr (fun hHeld => ?_)
      refine take_at (i := 0) (some 4) (v := ?_) rfl rfl (by kernel_rfl) (by kernel_rfl) (by kernel_rfl) (fun _ _ _ h => h) (Or.inl ⟨by rfl, ?_⟩) (by assumption) ?_
      rotate_left
      · (intro wx hSw; go_simp; try (with_reducible rfl))
      try simp only [Act.put, List.setIfInBounds_toArray, List.set_cons_zero, List.set_cons_succ]
      refine take_at (i := 1) (some 5) (v := ?_) rfl rfl (by kernel_rfl) (by kernel_rfl) (by kernel_rfl) (fun _ _ _ h => h) (Or.inl ⟨by rfl, ?_⟩) (by assumption) ?_
      rotate_left
      · (intro wx hSw; go_simp; try (with_reducible rfl))
      try simp only [Act.put, List.setIfInBounds_toArray, List.set_cons_zero, List.set_cons_succ]
      refine take_at (i := 2) (some 6) (v := ?_) rfl rfl (by kernel_rfl) (by kernel_rfl) (by kernel_rfl) (fun _ _ _ h => h) (Or.inl ⟨by rfl, ?_⟩) (by assumption) ?_
      rotate_left
      · (intro wx hSw; go_simp; try (with_reducible rfl))
      try simp only [Act.put, List.setIfInBounds_toArray, List.set_cons_zero, List.set_cons_succ]
      refine take_at (i := 3) (some 7) (v := ?_) rfl rfl (by kernel_rfl) (by kernel_rfl) (by kernel_rfl) (fun _ _ _ h => h) (Or.inl ⟨by rfl, ?_⟩) (by assumption) ?_
      rotate_left
      · (intro wx hSw; go_simp; try (with_reducible rfl))
      try simp only [Act.put, List.setIfInBounds_toArray, List.set_cons_zero, List.set_cons_succ]
      refine take_at (i := 4) (some 8) (v := ?_) rfl rfl (by kernel_rfl) (by kernel_rfl) (by kernel_rfl) (fun _ _ _ h => h) (Or.inl ⟨by rfl, ?_⟩) (by assumption) ?_
      rotate_left
      · (intro wx hSw; go_simp; try (with_reducible rfl))
      try simp only [Act.put, List.setIfInBounds_toArray, List.set_cons_zero, List.set_cons_succ]
      refine take_at (i := 5) (some 9) (v := ?_) rfl rfl (by kernel_rfl) (by kernel_rfl) (by kernel_rfl) (fun _ _ _ h => h) (Or.inl ⟨by rfl, ?_⟩) (by assumption) ?_
      rotate_left
      · (intro wx hSw; go_simp; try (with_reducible rfl))
      try simp only [Act.put, List.setIfInBounds_toArray, List.set_cons_zero, List.set_cons_succ]
      refine take_at (i := 8) (some 12) (v := ?_) rfl rfl (by kernel_rfl) (by kernel_rfl) (by kernel_rfl) (fun _ _ _ h => h) (Or.inl ⟨by rfl, ?_⟩) (by assumption) ?_
      rotate_left
      · (intro wx hSw; go_simp; try (with_reducible rfl))
      try simp only [Act.put, List.setIfInBounds_toArray, List.set_cons_zero, List.set_cons_succ]
      refine take_at (i := 9) (some 13) (v := ?_) rfl rfl (by kernel_rfl) (by kernel_rfl) (by kernel_rfl) (fun _ _ _ h => h) (Or.inl ⟨by rfl, ?_⟩) (by assumption) ?_
      rotate_left
      · (intro wx hSw; go_simp; try (with_reducible rfl))
      try simp only [Act.put, List.setIfInBounds_toArray, List.set_cons_zero, List.set_cons_succ]
      refine wpAnyH_ready (rs := [6]) (by kernel_rfl) (by simp) ?_
      refine AllReadyH.cons rfl (fun K hK => ?_) AllReadyH.nil
      go_simp
      refine (Seal_calls (l := l.drop 4) (S := S) (A := A4) (n := n - 4) (c := c - 4) (by assumption) (by omega)).mono ?_
      rintro e w6 ⟨oS, AS, cS, rfl, hS, hSn, hc6⟩
      have hcS := hS.fits
      have hcS4 : (4 : Int) ≤ (cS : Int) := by omega
      have hk6 : Chg (fun _ => False) w w6 := hdr.trans hc6 (fun _ _ hf => hf)
      go_wp2_with fail
      refine hK.out _ _ ?_ (fun hHeld => ?_)
      · (assumption)
      clear hK K
      try simp only [Act.put, List.setIfInBounds_toArray, List.set_cons_zero, List.set_cons_succ]
      refine take_at (i := 7) (some 11) (v := ?_) rfl rfl (by kernel_rfl) (by kernel_rfl) (by kernel_rfl) (fun _ _ _ h => h) (Or.inl ⟨by rfl, ?_⟩) (by assumption) ?_
      rotate_left
      · (intro wx hSw; go_simp; try (with_reducible rfl))
      try simp only [Act.put, List.setIfInBounds_toArray, List.set_cons_zero, List.set_cons_succ]
      refine wpAnyH_ready (rs := [10]) (by kernel_rfl) (by simp) ?_
      refine AllReadyH.cons rfl (fun K hK => ?_) AllReadyH.nil
      go_simp
      refine (Equal_calls (l := le4 (crc (l.drop 4))) (r := l.take 4) (S := fun k => oS = some k) (S' := S) ?_ ?_ (by omega) (by omega)).mono ?_
      · have h1 := hS.cs.take (k := 4) (by omega)
        rw [← bv_take, sealed_take] at h1
        exact h1
      · have h1 := (h.chg hk6 (fun _ _ _ hf => hf)).take (k := 4) (by omega)
        rw [← bv_take] at h1
        exact h1
      rintro e w7 ⟨rfl, q, rfl⟩
      have hk7 := hk6.drewN q
      go_wp2_with fail
      refine hK.out _ _ ?_ (fun hHeld => ?_)
      · (assumption)
      clear hK K
      try simp only [Act.put, List.setIfInBounds_toArray, List.set_cons_zero, List.set_cons_succ]
      refine take_at (i := 11) (some 15) (v := ?_) rfl rfl (by kernel_rfl) (by kernel_rfl) (by kernel_rfl) (fun _ _ _ h => h) (Or.inl ⟨by rfl, ?_⟩) (by assumption) ?_
      rotate_left
      · (intro wx hSw; go_simp; try (with_reducible rfl))
      try simp only [Act.put, List.setIfInBounds_toArray, List.set_cons_zero, List.set_cons_succ]
      refine take_at (i := 12) (some 16) (v := ?_) rfl rfl (by kernel_rfl) (by kernel_rfl) (by kernel_rfl) (fun _ _ _ h => h) (Or.inl ⟨by rfl, ?_⟩) (by assumption) ?_
      rotate_left
      · (intro wx hSw; go_simp; try (with_reducible rfl))
      try simp only [Act.put, List.setIfInBounds_toArray, List.set_cons_zero, List.set_cons_succ]
      refine wpAnyH_done (by kernel_rfl) ?_ _
      go_wp2_with fail
      go_meet
      refine ⟨?_, by assumption⟩
      have h1 : opens l = (le4 (crc (l.drop 4)) == l.take 4) := by rw [opens, decide_eq_true (by have := HL.out; omega), Bool.true_and]
      rw [h1]
    case rest =>
      obtain ⟨rfl, hk⟩ := hcut
      have hn4 : (4 : Int) ≤ (n : Int) := by omega
      obtain ⟨A4, hA4⟩ : ∃ A4, (if c = 4 then some ⟨b, off, none⟩ else some ⟨b, off + 4, none⟩ : Option Addr) = A4 := ⟨_, rfl⟩
      have hd5 : Cs wc S A4 (n - 4) (bv (l.drop 4)) := by
        rw [← hA4, bv_drop]
        simp only [Option.map_some, add_lit'] at hd4
        exact hd4.chg hk (fun _ _ _ hf => hf)
      cases ho : opens l with
      | true =>
        have HO := Lib.hid ho
        clear ho
        go_wp2_with fail
        refine (Clone_calls hd5 (by omega)).mono ?_
        rintro e w8 ⟨o8, A8, c8, rfl, h8, hn8, hc8⟩
        go_wp2_with fail
        go_ret2
        exact .inl ⟨HO.out, o8, A8, c8, rfl, h8, fun g hg => by have := hn8 g hg; have := hk.size; omega, hk.trans hc8 (fun _ _ hf => hf)⟩
      | false =>
        have HO := Lib.hid ho
        clear ho
        go_wp2_with fail
        go_ret2
        exact .inr ⟨HO.out, rfl, hk⟩
end Go.Proofs.Ytlnjadnddldjeaa
