/-
  Two disks side by side in memory: the program's and the document's; what each call makes of the pair.
-/
import Derived.Test.YtnehkheojgmocaaDiskKnown
import Derived.Test.YtnehkheojgmocaaRefCrash
namespace Go.Proofs.Ytnehkheojgmocaa
open Go.RowKit
set_option linter.unusedVariables false
set_option linter.unusedSimpArgs false

/-- In w the program's disk lies at D and the document's at R; since w0 nothing but blocks of V has changed, and both disks lie in V. -/
def Pair (V : Nat → Prop) (w0 w : World) (D R : Nat) (bs : List UInt8) (s : Nat) (bs' : List UInt8) (s' : Nat) : Prop :=
  ∃ own own', DiskAt w D own bs s ∧ RefAt w R own' bs' s' ∧ D ≠ R ∧ (∀ g, own = some g → own' ≠ some g) ∧ (V D ∧ V R ∧ (∀ g, own = some g → V g) ∧ (∀ g, own' = some g → V g)) ∧ (∀ k, w0.heap.size ≤ k → V k) ∧ Chg V w0 w
namespace Pair
variable {V : Nat → Prop} {w0 w w' : World} {D R : Nat} {bs bs' : List UInt8} {s s' : Nat}
theorem kept (h : Pair V w0 w D R bs s bs' s') : Chg V w0 w := h.choose_spec.choose_spec.2.2.2.2.2.2
theorem step (h : Pair V w0 w D R bs s bs' s') (hc : Chg (fun _ => False) w w') : Pair V w0 w' D R bs s bs' s' := by
  obtain ⟨own, own', hd, hr, h1, h2, h3, h4, h5⟩ := h
  exact ⟨own, own', hd.chg hc (fun h => h) (fun _ _ h => h), hr.chg hc (fun h => h) (fun _ _ h => h), h1, h2, h3, h4, h5.trans hc (fun _ _ h => h.elim)⟩
theorem base {V' : Nat → Prop} (h : Pair V w0 w D R bs s bs' s') (hV : ∀ k, V k → k < w.heap.size → V' k) (hN : ∀ k, w.heap.size ≤ k → V' k) : Pair V' w w D R bs s bs' s' := by
  obtain ⟨own, own', hd, hr, h1, h2, ⟨v1, v2, v3, v4⟩, h4, h5⟩ := h
  exact ⟨own, own', hd, hr, h1, h2, ⟨hV _ v1 hd.lt, hV _ v2 hr.lt, fun g hg => hV _ (v3 g hg) (hd.ownLt g hg), fun g hg => hV _ (v4 g hg) (hr.ownLt g hg)⟩, hN, Chg.refl _ _⟩
theorem rebase {V' : Nat → Prop} (h : Pair V w0 w D R bs s bs' s') (hc : Chg (fun _ => False) w w') (hV : ∀ k, V k → k < w.heap.size → V' k) (hN : ∀ k, w'.heap.size ≤ k → V' k) : Pair V' w' w' D R bs s bs' s' := by
  obtain ⟨own, own', hd, hr, h1, h2, ⟨v1, v2, v3, v4⟩, h4, h5⟩ := h
  exact ⟨own, own', hd.chg hc (fun h => h) (fun _ _ h => h), hr.chg hc (fun h => h) (fun _ _ h => h), h1, h2, ⟨hV _ v1 hd.lt, hV _ v2 hr.lt, fun g hg => hV _ (v3 g hg) (hd.ownLt g hg), fun g hg => hV _ (v4 g hg) (hr.ownLt g hg)⟩, hN, Chg.refl _ _⟩
end Pair
section
variable {V : Nat → Prop} {w0 w : World} {D R : Nat} {bs bs' x : List UInt8} {s s' : Nat}

theorem Append_p {S : Nat → Prop} {X : Option Addr} {n c : Nat} (h : Pair V w0 w D R bs s bs' s') (hx : Cs w S X n (bv x)) (hroom : bs.length + n ≤ 4194304) :
    Calls Try.prog 14 #[.pointer (some ⟨D, 0, none⟩), .slice X n c] w fun e w' => e = .returned (.int .i64 0) ∧ Pair V w0 w' D R (bs ++ x) s bs' s' := by
  obtain ⟨own, own', hd, hr, h1, h2, ⟨v1, v2, v3, v4⟩, h4, h5⟩ := h
  refine (Append_ok hd hx hroom).mono ?_
  rintro e w' ⟨o1, rfl, hd1, hor, hc⟩
  obtain ⟨-, -, A, cap, hh, ho⟩ := hd
  obtain ⟨-, -, A', cap', hh', ho'⟩ := id hr
  have hsz := h5.size
  refine ⟨rfl, o1, own', hd1, hr.chg hc (fun h => ?_) (fun k hk h => ?_), h1, fun g hg hg' => ?_, ⟨v1, v2, fun g hg => ?_, v4⟩, h4, h5.trans hc (fun k _ h => ?_)⟩
  · rcases h with h | h
    · exact h1 h.symm
    · exact ho.ne_ hh' (by decide) h
  · rcases h with h | h
    · subst h; exact ho'.ne_ hh (by decide) hk
    · exact h2 k h hk
  · rcases hor with h0 | h0
    · rw [h0] at hg; exact h2 g hg hg'
    · have := h0 g hg; have := hr.ownLt g hg'; omega
  · rcases hor with h0 | h0
    · rw [h0] at hg; exact v3 g hg
    · exact h4 g (by have := h0 g hg; omega)
  · rcases h with h | h
    · subst h; exact v1
    · exact v3 k h
/-- the document's side was made anew -/
theorem ref_made {e : Ending} {w' : World} {r : Value} {bs2 : List UInt8} {s2 : Nat} (h : Pair V w0 w D R bs s bs' s') (hm : RefMade w R bs2 s2 r e w') : e = .returned r ∧ Pair V w0 w' D R bs s bs2 s2 := by
  obtain ⟨own, own', hd, hr, h1, h2, ⟨v1, v2, v3, v4⟩, h4, h5⟩ := h
  obtain ⟨o1, rfl, hr1, hn, hc⟩ := hm
  obtain ⟨-, -, A, cap, hh, ho⟩ := id hd
  obtain ⟨-, -, A', cap', hh', ho'⟩ := hr
  have hsz := h5.size
  refine ⟨rfl, own, o1, hd.chg hc (fun h => h1 h) (fun k hk h => ?_), hr1, h1, fun g hg hg' => ?_, ⟨v1, v2, v3, fun g hg => h4 g (by have := hn g hg; omega)⟩, h4, h5.trans hc (fun k _ h => ?_)⟩
  · subst h; exact ho.ne_ hh' (by decide) hk
  · have := hn g hg'; have := ho.lt hg; omega
  · subst h; exact v2
/-- the program's side was made anew, in memory of its own or in none -/
theorem disk_made {own : Option Nat} {w' : World} {bs2 : List UInt8} {s2 : Nat} (h : Pair V w0 w D R bs s bs' s') (hd1 : DiskAt w' D own bs2 s2) (hn : ∀ g, own = some g → w.heap.size ≤ g) (hc : Chg (fun k => k = D) w w') : Pair V w0 w' D R bs2 s2 bs' s' := by
  obtain ⟨own, own', hd, hr, h1, h2, ⟨v1, v2, v3, v4⟩, h4, h5⟩ := h
  obtain ⟨-, -, A, cap, hh, ho⟩ := hd
  obtain ⟨-, -, A', cap', hh', ho'⟩ := id hr
  have hsz := h5.size
  refine ⟨_, own', hd1, hr.chg hc (fun h => h1 h.symm) (fun k hk h => ?_), h1, fun g hg hg' => ?_, ⟨v1, v2, fun g hg => h4 g (by have := hn g hg; omega), v4⟩, h4, h5.trans hc (fun k _ h => ?_)⟩
  · subst h; exact ho'.ne_ hh (by decide) hk
  · have := hn g hg; have := ho'.lt hg'; omega
  · subst h; exact v1
/-- the program's side has the same memory, or less of it -/
theorem disk_same {own own' : Option Nat} {w' : World} {bs2 : List UInt8} {s2 : Nat} (hd : DiskAt w D own bs s) (hr : RefAt w R own' bs' s') (h1 : D ≠ R) (h2 : ∀ g, own = some g → own' ≠ some g) (hv : V D ∧ V R ∧ (∀ g, own = some g → V g) ∧ (∀ g, own' = some g → V g)) (h4 : ∀ k, w0.heap.size ≤ k → V k) (h5 : Chg V w0 w)
    (hd1 : DiskAt w' D own bs2 s2) (hc : Chg (fun k => k = D) w w') : Pair V w0 w' D R bs2 s2 bs' s' := by
  obtain ⟨-, -, A, cap, hh, ho⟩ := hd
  obtain ⟨-, -, A', cap', hh', ho'⟩ := id hr
  refine ⟨own, own', hd1, hr.chg hc (fun h => h1 h.symm) (fun k hk h => ?_), h1, h2, hv, h4, h5.trans hc (fun k _ h => ?_)⟩
  · subst h; exact ho'.ne_ hh (by decide) hk
  · subst h; exact hv.1
theorem Sync_p (h : Pair V w0 w D R bs s bs' s') :
    Calls Try.prog 15 #[.pointer (some ⟨D, 0, none⟩)] w fun e w' => e = .returned (.tuple #[]) ∧ Pair V w0 w' D R bs bs.length bs' s' := by
  obtain ⟨own, own', hd, hr, h1, h2, hv, h4, h5⟩ := h
  exact (Sync_calls hd).mono fun e w' ⟨he, hd1, hc⟩ => ⟨he, disk_same hd hr h1 h2 hv h4 h5 hd1 hc⟩
theorem Crash_p (keep : Int) (h : Pair V w0 w D R bs s bs' s') :
    Calls Try.prog 17 #[.pointer (some ⟨D, 0, none⟩), .int .i64 keep] w fun e w' => e = .returned (.tuple #[]) ∧ Pair V w0 w' D R (bs.take (_root_.Go.Proofs.Ytnehkheojgmocaa.kept bs.length s keep)) (_root_.Go.Proofs.Ytnehkheojgmocaa.kept bs.length s keep) bs' s' := by
  obtain ⟨own, own', hd, hr, h1, h2, hv, h4, h5⟩ := h
  exact (Crash_calls keep hd).mono fun e w' ⟨he, hd1, hc⟩ => ⟨he, disk_same hd hr h1 h2 hv h4 h5 hd1 hc⟩
theorem RefSync_p (h : Pair V w0 w D R bs s bs' s') :
    Calls Try.prog 29 #[.pointer (some ⟨R, 0, none⟩)] w fun e w' => e = .returned (.tuple #[]) ∧ Pair V w0 w' D R bs s bs' bs'.length := by
  obtain ⟨own, own', hd, hr, h1, h2, hv, h4, h5⟩ := h
  refine (RefSync_calls hr).mono fun e w' ⟨he, hr1, hc⟩ => ⟨he, ?_⟩
  obtain ⟨-, -, A, cap, hh, ho⟩ := id hd
  obtain ⟨-, -, A', cap', hh', ho'⟩ := hr
  refine ⟨own, own', hd.chg hc (fun h => h1 h) (fun k hk h => ?_), hr1, h1, h2, hv, h4, h5.trans hc (fun k _ h => ?_)⟩
  · subst h; exact ho.ne_ hh' (by decide) hk
  · subst h; exact hv.2.1
theorem Bytes_p (h : Pair V w0 w D R bs s bs' s') :
    Calls Try.prog 18 #[.pointer (some ⟨D, 0, none⟩)] w (Cloned w bs.length bs) := by
  obtain ⟨own, own', hd, _⟩ := h
  exact Bytes_calls hd
theorem Safe_p (h : Pair V w0 w D R bs s bs' s') :
    Calls Try.prog 19 #[.pointer (some ⟨D, 0, none⟩)] w fun e w' => e = .returned (.int .i64 (s : Int)) ∧ w' = w := by
  obtain ⟨own, own', hd, _⟩ := h
  exact Safe_calls hd
/-- what the law reads of the document's disk -/
theorem Pair.ref (h : Pair V w0 w D R bs s bs' s') : ∃ own' A cap, w.cell? ⟨R, 0, none⟩ = some (.slice A bs'.length cap) ∧ w.cell? ⟨R, 1, none⟩ = some (.int .i64 (s' : Int)) ∧ Cs w (fun k => own' = some k) A bs'.length (bv bs') := by
  obtain ⟨own, own', hd, ⟨_, _, A, cap, hh, ho⟩, _⟩ := h
  obtain ⟨c0, c1, _, _⟩ := two_cells hh
  exact ⟨own', A, cap, c0, c1, ho.cs⟩
theorem Pair.le (h : Pair V w0 w D R bs s bs' s') : s ≤ bs.length ∧ bs.length ≤ 4194304 ∧ s' ≤ bs'.length ∧ bs'.length ≤ 4194304 := by
  obtain ⟨own, own', hd, hr, _⟩ := h
  exact ⟨hd.1, hd.2.1, hr.1, hr.2.1⟩
theorem RefAppend_p {S : Nat → Prop} {X : Option Addr} {n c : Nat} (h : Pair V w0 w D R bs s bs' s') (hx : Cs w S X n (bv x)) (hroom : bs'.length + n ≤ 4194304) :
    Calls Try.prog 28 #[.pointer (some ⟨R, 0, none⟩), .slice X n c] w fun e w' => e = .returned (.int .i64 0) ∧ Pair V w0 w' D R bs s (bs' ++ x) s' := by
  obtain ⟨own, own', hd, hr, _⟩ := id h
  exact (RefAppend_ok hr hx hroom).mono fun e w' hm => ref_made h hm
theorem RefSwap_p {S : Nat → Prop} {X : Option Addr} {n c : Nat} (h : Pair V w0 w D R bs s bs' s') (hx : Cs w S X n (bv x)) (hroom : n ≤ 4194304) :
    Calls Try.prog 30 #[.pointer (some ⟨R, 0, none⟩), .slice X n c] w fun e w' => e = .returned (.int .i64 0) ∧ Pair V w0 w' D R bs s x x.length := by
  obtain ⟨own, own', hd, hr, _⟩ := id h
  exact (RefSwap_ok hr hx hroom).mono fun e w' hm => ref_made h hm
theorem RefCrash_p (keep : Int) (h : Pair V w0 w D R bs s bs' s') :
    Calls Try.prog 31 #[.pointer (some ⟨R, 0, none⟩), .int .i64 keep] w fun e w' => e = .returned (.tuple #[]) ∧ Pair V w0 w' D R bs s (bs'.take (_root_.Go.Proofs.Ytnehkheojgmocaa.kept bs'.length s' keep)) (_root_.Go.Proofs.Ytnehkheojgmocaa.kept bs'.length s' keep) := by
  obtain ⟨own, own', hd, hr, _⟩ := id h
  exact (RefCrash_calls keep hr).mono fun e w' hm => ref_made h hm
theorem Swap_p {S : Nat → Prop} {X : Option Addr} {n c : Nat} (h : Pair V w0 w D R bs s bs' s') (hx : Cs w S X n (bv x)) (hroom : n ≤ 4194304) :
    Calls Try.prog 26 #[.pointer (some ⟨D, 0, none⟩), .slice X n c] w fun e w' => e = .returned (.int .i64 0) ∧ Pair V w0 w' D R x x.length bs' s' := by
  obtain ⟨own, own', hd, hr, _⟩ := id h
  exact (Swap_ok hd hx hroom).mono fun e w' ⟨o1, he, hd1, hn, hc⟩ => ⟨he, disk_made h hd1 hn hc⟩
end
end Go.Proofs.Ytnehkheojgmocaa
