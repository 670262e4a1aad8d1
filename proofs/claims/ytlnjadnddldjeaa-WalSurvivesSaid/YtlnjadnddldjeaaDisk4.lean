/-
  Contracts of package disk: what a disk in memory holds, and what each of its calls makes of that.
-/
import Derived.Test.YtlnjadnddldjeaaBytes4
import Derived.BigRegion
import Derived.StillTailTactics
import Derived.Lib.SlBytesConst
import Derived.LaidEql
import Derived.LaidEqlPtr
namespace Go.Proofs.Ytlnjadnddldjeaa
open Go.RowKit
set_option linter.unusedVariables false

theorem Own.setOther {w : World} {e : TypeId} {own : Option Nat} {A : Option Addr} {n cap : Nat} {xs : List Value} (h : Own w e own A n cap xs) {p : Addr} (hp : own ≠ some p.block) (u : Value) :
    Own (w.setCell p u) e own A n cap xs :=
  h.chg (T := fun k => k = p.block) (Chg.one w p u) fun k hk e => hp (by rw [hk, e])

/-- In w a disk lies at block D: its bytes, in an array of its own, and how many are safe. -/
def DiskAt (w : World) (D : Nat) (own : Option Nat) (bs : List UInt8) (safe : Nat) : Prop :=
  safe ≤ bs.length ∧ bs.length ≤ 4194304 ∧ ∃ A cap, w.heap[D]? = some (.cells #[.slice A bs.length cap, .int .i64 (safe : Int)] 65 (0, 0)) ∧ Own w 5 own A bs.length cap (bv bs)

theorem two_cells {w : World} {D : Nat} {x y : Value} {t : TypeId} (h : w.heap[D]? = some (.cells #[x, y] t (0, 0))) :
    w.cell? ⟨D, 0, none⟩ = some x ∧ w.cell? ⟨D, 1, none⟩ = some y ∧ w.frozen? ⟨D, 0, none⟩ = false ∧ w.frozen? ⟨D, 1, none⟩ = false := by
  simp [World.cell?, World.frozen?, h]
theorem two_set0 {w : World} {D : Nat} {x y : Value} {t : TypeId} (h : w.heap[D]? = some (.cells #[x, y] t (0, 0))) (u : Value) :
    (w.setCell ⟨D, 0, none⟩ u).heap[D]? = some (.cells #[u, y] t (0, 0)) := by
  rw [heap_setCell_same w D 0 _ t u h]; rfl
theorem two_set1 {w : World} {D : Nat} {x y : Value} {t : TypeId} (h : w.heap[D]? = some (.cells #[x, y] t (0, 0))) (u : Value) :
    (w.setCell ⟨D, 1, none⟩ u).heap[D]? = some (.cells #[x, u] t (0, 0)) := by
  rw [heap_setCell_same w D 1 _ t u h]; rfl

theorem DiskAt.chg {w w' : World} {T : Nat → Prop} {D : Nat} {own : Option Nat} {bs : List UInt8} {safe : Nat} (h : DiskAt w D own bs safe) (hc : Chg T w w') (hD : ¬ T D) (hd : ∀ k, own = some k → ¬ T k) : DiskAt w' D own bs safe := by
  obtain ⟨h1, h2, A, cap, hh, ho⟩ := h
  exact ⟨h1, h2, A, cap, hc.heap hh hD, ho.chg hc hd⟩
theorem DiskAt.lt {w : World} {D : Nat} {own : Option Nat} {bs : List UInt8} {safe : Nat} (h : DiskAt w D own bs safe) : D < w.heap.size := by
  obtain ⟨_, _, A, cap, hh, _⟩ := h
  exact lt_of_block hh
theorem DiskAt.ownLt {w : World} {D : Nat} {own : Option Nat} {bs : List UInt8} {safe : Nat} (h : DiskAt w D own bs safe) : ∀ g, own = some g → g < w.heap.size := by
  obtain ⟨_, _, A, cap, hh, ho⟩ := h
  exact fun g hg => ho.lt hg

/-- a new disk at the heap's end -/
def NewDisk (w : World) (e : Ending) (w' : World) : Prop :=
  e = .returned (.pointer (some ⟨w.heap.size, 0, none⟩)) ∧ DiskAt w' w.heap.size none [] 0 ∧ Chg (fun _ => False) w w'
theorem New_calls (w : World) : Calls Try.prog 17 #[] w (NewDisk w) := by
  go_enter Try.func17, Try.ntmps17
  go_wp2_with fail
  go_ret
  exact ⟨rfl, ⟨Nat.le_refl _, by simp, none, 0, heap_alloc_new w _, Own.nil_ _ _ _⟩, (Chg.refl _ w).alloc _⟩

/-- behind an Append that was let in -/
def Appended (w : World) (D : Nat) (own : Option Nat) (bs : List UInt8) (safe : Nat) (e : Ending) (w' : World) : Prop :=
  ∃ own', e = .returned (.int .i64 0) ∧ DiskAt w' D own' bs safe ∧ (own' = own ∨ ∀ g, own' = some g → w.heap.size ≤ g) ∧ Chg (fun k => k = D ∨ own = some k) w w'
theorem Append_ok {w : World} {D : Nat} {own : Option Nat} {bs x : List UInt8} {safe : Nat} {S : Nat → Prop} {X : Option Addr} {n c : Nat} (hd : DiskAt w D own bs safe) (hx : Cs w S X n (bv x)) (hroom : bs.length + n ≤ 4194304) :
    Calls Try.prog 19 #[.pointer (some ⟨D, 0, none⟩), .slice X n c] w (Appended w D own (bs ++ x) safe) := by
  obtain ⟨h1, h2, A, cap, hh, ho⟩ := hd
  have hlen : x.length = n := by rw [← bv_length]; exact hx.1
  have HL := Lib.hid hlen
  clear hlen
  obtain ⟨c0, c1, f0, f1⟩ := two_cells hh
  go_enter Try.func19, Try.ntmps19
  go_wp2_with (at_builtin; refine wpList_append rfl _ _ 31 31 rfl 5 1 bytesApp own A bs.length cap (bv bs) (bv x) _ rfl rfl ho (Src.slice hx) (bv_one x) (bs.length + n) ?_ (by omega) (by omega) ?_)
  · rw [bv_length, HL.out]
  · intro own' A' cap' w' hown hor hchg
    have hne : own ≠ some D := ho.ne_ hh (by decide)
    have hh' := hchg.heap hh (fun h => hne h)
    obtain ⟨c0', c1', f0', f1'⟩ := two_cells hh'
    have hne' : own' ≠ some D := hown.ne_ hh' (by decide)
    have hs := two_set0 hh' (.slice A' (bs.length + n) cap')
    have hown2 := hown.setOther (p := ⟨D, 0, none⟩) hne' (.slice A' (bs.length + n) cap')
    clear c0 c1 f0 f1 hh ho hown
    go_wp2_with fail
    go_ret
    refine ⟨own', rfl, ⟨by simp; omega, by rw [List.length_append, HL.out]; omega, A', cap', ?_, ?_⟩, ?_, ?_⟩
    · rw [List.length_append, HL.out]; exact hs
    · rw [List.length_append, HL.out, bv_append]; exact hown2
    · rcases hor with h0 | h0
      · exact .inl h0
      · exact .inr fun g hg => by rw [h0] at hg; injection hg with hg; omega
    · exact (hchg.mono (fun i _ h => .inr h)).setCell (.inl (.inl rfl)) _
theorem Append_full {w : World} {D : Nat} {own : Option Nat} {bs : List UInt8} {safe : Nat} {X : Option Addr} {n c : Nat} (hd : DiskAt w D own bs safe) (hroom : 4194304 < bs.length + n) :
    Calls Try.prog 19 #[.pointer (some ⟨D, 0, none⟩), .slice X n c] w fun e w' => e = .returned (.int .i64 13) ∧ w' = w := by
  obtain ⟨h1, h2, A, cap, hh, ho⟩ := hd
  obtain ⟨c0, c1, f0, f1⟩ := two_cells hh
  go_enter Try.func19, Try.ntmps19
  go_wp2_with fail
  go_ret
  exact ⟨rfl, rfl⟩

def Synced (w : World) (D : Nat) (own : Option Nat) (bs : List UInt8) (e : Ending) (w' : World) : Prop :=
  e = .returned (.tuple #[]) ∧ DiskAt w' D own bs bs.length ∧ Chg (fun k => k = D) w w'
theorem Sync_calls {w : World} {D : Nat} {own : Option Nat} {bs : List UInt8} {safe : Nat} (hd : DiskAt w D own bs safe) :
    Calls Try.prog 35 #[.pointer (some ⟨D, 0, none⟩)] w (Synced w D own bs) := by
  obtain ⟨h1, h2, A, cap, hh, ho⟩ := hd
  obtain ⟨c0, c1, f0, f1⟩ := two_cells hh
  have hne : own ≠ some D := ho.ne_ hh (by decide)
  have hs := two_set1 hh (.int .i64 (bs.length : Int))
  go_enter Try.func35, Try.ntmps35
  go_wp2_with fail
  go_end0
  exact ⟨rfl, ⟨Nat.le_refl _, h2, A, cap, hs, ho.setOther hne _⟩, Chg.one w ⟨D, 1, none⟩ _⟩

theorem Bytes_calls {w : World} {D : Nat} {own : Option Nat} {bs : List UInt8} {safe : Nat} (hd : DiskAt w D own bs safe) :
    Calls Try.prog 16 #[.pointer (some ⟨D, 0, none⟩)] w (Cloned w bs.length bs) := by
  obtain ⟨h1, h2, A, cap, hh, ho⟩ := hd
  obtain ⟨c0, c1, f0, f1⟩ := two_cells hh
  go_enter Try.func16, Try.ntmps16
  go_wp2_with (go_at_call 37; refine (Clone_calls ho.cs (by omega)).mono ?_; rintro e w' ⟨o', A', cap', rfl, hown, hnew, hchg⟩)
  go_ret
  exact ⟨o', A', cap', rfl, hown, hnew, hchg⟩
theorem Safe_calls {w : World} {D : Nat} {own : Option Nat} {bs : List UInt8} {safe : Nat} (hd : DiskAt w D own bs safe) :
    Calls Try.prog 14 #[.pointer (some ⟨D, 0, none⟩)] w fun e w' => e = .returned (.int .i64 (safe : Int)) ∧ w' = w := by
  obtain ⟨h1, h2, A, cap, hh, ho⟩ := hd
  obtain ⟨c0, c1, f0, f1⟩ := two_cells hh
  go_enter Try.func14, Try.ntmps14
  go_wp2_with fail
  go_ret
  exact ⟨rfl, rfl⟩

def Swapped (w : World) (D : Nat) (bs : List UInt8) (e : Ending) (w' : World) : Prop :=
  ∃ own', e = .returned (.int .i64 0) ∧ DiskAt w' D own' bs bs.length ∧ (∀ g, own' = some g → w.heap.size ≤ g) ∧ Chg (fun k => k = D) w w'
theorem Swap_ok {w : World} {D : Nat} {own : Option Nat} {bs x : List UInt8} {safe : Nat} {S : Nat → Prop} {X : Option Addr} {n c : Nat} (hd : DiskAt w D own bs safe) (hx : Cs w S X n (bv x)) (hroom : n ≤ 4194304) :
    Calls Try.prog 40 #[.pointer (some ⟨D, 0, none⟩), .slice X n c] w (Swapped w D x) := by
  obtain ⟨h1, h2, A, cap, hh, ho⟩ := hd
  obtain ⟨c0, c1, f0, f1⟩ := two_cells hh
  have hlen : x.length = n := by rw [← bv_length]; exact hx.1
  have HL := Lib.hid hlen
  clear hlen
  go_enter Try.func40, Try.ntmps40
  go_wp2_with fail
  refine (Clone_calls hx (by omega)).mono ?_
  rintro e w' ⟨o', A', cap', rfl, hown, hnew, hchg⟩
  have hh' := hchg.heap hh (fun h => h)
  obtain ⟨c0', c1', f0', f1'⟩ := two_cells hh'
  have hne' : o' ≠ some D := hown.ne_ hh' (by decide)
  have hs := two_set1 (two_set0 hh' (.slice A' n cap')) (.int .i64 (n : Int))
  clear c0 c1 f0 f1 hh
  go_wp2_with fail
  go_ret
  refine ⟨o', rfl, ⟨Nat.le_refl _, by rw [HL.out]; omega, A', cap', ?_, ?_⟩, hnew, ?_⟩
  · rw [HL.out]; exact hs
  · rw [HL.out]; exact (hown.setOther hne' _).setOther hne' _
  · exact (Chg.setIn (Chg.mono (T' := fun k => k = D) hchg (fun i _ h => h.elim)) rfl _ _).setIn rfl _ _
theorem Swap_full {w : World} {D : Nat} {X : Option Addr} {n c : Nat} (hroom : 4194304 < n) :
    Calls Try.prog 40 #[.pointer (some ⟨D, 0, none⟩), .slice X n c] w fun e w' => e = .returned (.int .i64 13) ∧ w' = w := by
  go_enter Try.func40, Try.ntmps40
  go_wp2_with fail
  go_ret
  exact ⟨rfl, rfl⟩


def kept (n safe : Nat) (keep : Int) : Nat := safe + (min (max keep 0) ((n : Int) - safe)).toNat
def Crashed (w : World) (D : Nat) (own : Option Nat) (bs : List UInt8) (k : Nat) (e : Ending) (w' : World) : Prop :=
  e = .returned (.tuple #[]) ∧ DiskAt w' D own (bs.take k) k ∧ Chg (fun k => k = D) w w'
theorem crashed_of {w : World} {D : Nat} {own : Option Nat} {bs : List UInt8} {safe : Nat} {A : Option Addr} {cap K : Nat}
    (h2 : bs.length ≤ 4194304) (hh : w.heap[D]? = some (.cells #[.slice A bs.length cap, .int .i64 (safe : Int)] 65 (0, 0))) (ho : Own w 5 own A bs.length cap (bv bs)) (hne : own ≠ some D)
    (hK : K ≤ bs.length) (m : Nat) (n : Int) (hm : m = K) (hn : n = (K : Int)) (k' : Nat) (hk' : k' = K) :
    Crashed w D own bs k' (.returned (.tuple #[])) ((w.setCell ⟨D, 0, none⟩ (.slice A m cap)).setCell ⟨D, 1, none⟩ (.int .i64 n)).drew := by
  subst hm; subst hn; subst hk'
  have hl : (bs.take k').length = k' := by rw [List.length_take]; omega
  refine ⟨rfl, ⟨by rw [hl]; exact Nat.le_refl _, by rw [hl]; omega, A, cap, ?_, ?_⟩, (((Chg.refl (fun k => k = D) w).setIn rfl _ _).setIn rfl _ _).drew⟩
  · rw [hl]; exact two_set1 (two_set0 hh _) _
  · rw [hl, bv_take]; exact (((ho.take hK).setOther hne _).setOther hne _).drew
set_option maxHeartbeats 800000 in
theorem Crash_calls {w : World} {D : Nat} {own : Option Nat} {bs : List UInt8} {safe : Nat} (keep : Int) (hd : DiskAt w D own bs safe) :
    Calls Try.prog 26 #[.pointer (some ⟨D, 0, none⟩), .int .i64 keep] w (Crashed w D own bs (kept bs.length safe keep)) := by
  obtain ⟨h1, h2, A, cap, hh, ho⟩ := hd
  obtain ⟨c0, c1, f0, f1⟩ := two_cells hh
  have hne : own ≠ some D := ho.ne_ hh (by decide)
  have hcap := ho.fits
  have hcases : (keep < 0 ∧ ¬ ((bs.length : Int) - (safe : Int) < 0)) ∨ (¬ keep < 0 ∧ ¬ ((bs.length : Int) - (safe : Int) < keep)) ∨ (¬ keep < 0 ∧ (bs.length : Int) - (safe : Int) < keep) := by omega
  rcases hcases with ⟨k1, k2⟩ | ⟨k1, k2⟩ | ⟨k1, k2⟩
  all_goals
    go_enter Try.func26, Try.ntmps26
    go_wp2_with fail
    go_region
    go_wp2_with fail
    go_end0
    exact crashed_of (K := kept bs.length safe keep) h2 hh ho hne (by unfold kept; omega) _ _ (by unfold kept; omega) (by unfold kept; omega) _ rfl
end Go.Proofs.Ytlnjadnddldjeaa
