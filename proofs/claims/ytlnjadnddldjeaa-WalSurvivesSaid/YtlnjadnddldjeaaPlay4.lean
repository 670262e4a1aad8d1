/-
  Copies of the document's log, and the slice of them that grows: what they leave of a log, the document's log and the states.
-/
import Derived.Test.YtlnjadnddldjeaaPlay3
namespace Go.Proofs.Ytlnjadnddldjeaa
open Go.RowKit
set_option linter.unusedVariables false
set_option linter.unusedSimpArgs false

theorem ptrsApp : AppT Try.prog 53 53 51 8 := by
  obtain ⟨i, hi, hz, hs, hb⟩ := info_parts (P := Try.prog) (e := 51) (z := Value.pointer none) (size := 1) (bytes := 8) (by kernel_rfl)
  exact ⟨Try.underlying53, .inl ⟨_, Try.underlying53⟩, i, _, hi, hz, hs, hb, rfl⟩
section
variable {W D R k L : Nat} {Z Y : Nat → Prop} {w0 w w' : World} {tx ty : LSt} {sts : List LSt}
/-- behind a copy of the document's log -/
def Copied3 (W D R : Nat) (Z Y : Nat → Prop) (w0 : World) (k L : Nat) (tx ty : LSt) (sts : List LSt) (w : World) (e : Ending) (w' : World) : Prop :=
  e = .returned (.pointer (some ⟨w.heap.size, 0, none⟩)) ∧ (∃ Z' : Nat → Prop, (∀ i, Z i → Z' i) ∧ Play3 W D R Z' Y w0 k L tx ty sts w' ∧ RefAt Z' w' w.heap.size ty) ∧ Chg (fun _ => False) w w' ∧ w.heap.size < w'.heap.size
theorem Play3.copy (h : Play3 W D R Z Y w0 k L tx ty sts w) :
    Calls Try.prog 30 #[.pointer (some ⟨R, 0, none⟩)] w (Copied3 W D R Z Y w0 k L tx ty sts w) := by
  obtain ⟨V, U, es, safe, h1, h2, h3, h4, h5, h5y, h6, h7, h8, h9, h10, h11, h12, h13, h14⟩ := h
  have hR := h2.lt
  refine (RCopy_calls h2).mono ?_
  rintro e w' ⟨rfl, g, hc, hlt⟩
  refine ⟨rfl, ⟨fun i => Z i ∨ i = w.heap.size ∨ (U i ∧ i ≠ R), fun i hz => .inl hz, ⟨V, U, es, safe, h1.keep hc, h2.keep hc, fun i hi => ?_, fun i hi => by have := h4 i hi; exact ⟨this.1, by omega, this.2.2⟩, fun i hi => ?_, fun i hi => by have := h5y i hi; omega, h6.trans hc (fun _ _ h => h.elim), h7, h8, h9, h10, h11, h12, by omega, h14⟩, g _ (.inr (.inl rfl)) fun i _ hu hne => .inr (.inr ⟨hu, hne⟩)⟩, hc, hlt⟩
  · have := h3 i hi
    refine ⟨this.1, by omega, this.2.2.1, fun hz => ?_, this.2.2.2.2⟩
    rcases hz with hz | hz | hz
    · exact this.2.2.2.1 hz
    · omega
    · exact this.2.2.1 hz.1
  · rcases hi with hi | rfl | hi
    · have := h5 i hi; exact ⟨this.1, by omega, this.2.2⟩
    · exact ⟨h13, hlt, by omega, fun hy => by have := h5y _ hy; omega⟩
    · have := h4 i hi.1; exact ⟨this.1, by omega, hi.2, this.2.2⟩
/-- the document's log is put back to what it was at one of the times -/
theorem Play3.back (h : Play3 W D R Z Y w0 k L tx ty sts w) {P : Nat} {t : LSt} (g : RefAt Z w P t) (ht : t.rs.length ≤ k) :
    Calls Try.prog 30 #[.pointer (some ⟨P, 0, none⟩)] w (fun e w' => e = .returned (.pointer (some ⟨w.heap.size, 0, none⟩)) ∧ Play3 W D w.heap.size none21 Y w0 k L tx t sts w' ∧ Chg (fun _ => False) w w') := by
  obtain ⟨V, U, es, safe, h1, h2, h3, h4, h5, h5y, h6, h7, h8, h9, h10, h11, h12, h13, h14⟩ := h
  refine (RCopy_calls g).mono ?_
  rintro e w' ⟨rfl, q, hc, hlt⟩
  refine ⟨rfl, ⟨V, fun i => i = w.heap.size ∨ (Z i ∧ i ≠ P), es, safe, h1.keep hc, q _ (.inl rfl) (fun i _ hz hne => .inr ⟨hz, hne⟩), fun i hi => ?_, fun i hi => ?_, fun i hi => hi.elim, fun i hi => by have := h5y i hi; omega, h6.trans hc (fun _ _ h => h.elim), h7, h8, h9, h10, ht, h12, by omega, h14⟩, hc⟩
  · have := h3 i hi
    exact ⟨this.1, by omega, fun hu => hu.elim (fun e => by omega) (fun e => this.2.2.2.1 e.1), fun h => h, this.2.2.2.2⟩
  · rcases hi with rfl | hi
    · exact ⟨h13, hlt, fun hy => by have := h5y _ hy; omega⟩
    · have := h5 i hi.1; exact ⟨this.1, by omega, this.2.2.2⟩
/-- the slice of states grew -/
theorem Play3.grown (h : Play3 W D R Z Y w0 k L tx ty sts w) {own own' : Option Nat} (hc : Chg (fun i => own = some i) w w') (ho : ∀ g, own = some g → Y g) (hor : own' = own ∨ own' = some w.heap.size) (hlt : ∀ g, own' = some g → g < w'.heap.size) :
    Play3 W D R Z (fun i => Y i ∨ own' = some i) w0 k L tx ty sts w' := by
  have h2 := h.chgY (hc.mono fun i _ e => ho i e)
  have hW := h.base.2
  obtain ⟨V, U, es, safe, h1, h2', h3, h4, h5, h5y, h6⟩ := h
  have hnew : ∀ i, own' = some i → Y i ∨ i = w.heap.size := fun i hi => by
    rcases hor with e | e
    · exact .inl (ho i (by rw [← e, hi]))
    · rw [e] at hi; injection hi with hi; exact .inr hi.symm
  have z := hc.size
  obtain ⟨q1, q2, q3, q4, q5, q6, q7, q8, q9, q10⟩ := h6
  exact ⟨V, U, es, safe, h1.chg hc (fun i _ hv e => (h3 i hv).2.2.2.2 (ho i e)), h2'.chg hc (fun i _ hu e => (h4 i hu).2.2 (ho i e)),
    fun i hi => by have := h3 i hi; exact ⟨this.1, by omega, this.2.2.1, this.2.2.2.1, fun hy => hy.elim this.2.2.2.2 (fun e => (hnew i e).elim this.2.2.2.2 (fun e => by omega))⟩,
    fun i hi => by have := h4 i hi; exact ⟨this.1, by omega, fun hy => hy.elim this.2.2 (fun e => (hnew i e).elim this.2.2 (fun e => by omega))⟩,
    fun i hi => by have := h5 i hi; exact ⟨this.1, by omega, this.2.2.1, fun hy => hy.elim this.2.2.2 (fun e => (hnew i e).elim this.2.2.2 (fun e => by omega))⟩,
    fun i hi => by
      rcases hi with hi | hi
      · have := h5y i hi; omega
      · have := hlt i hi
        rcases hnew i hi with hy | hy
        · have := h5y i hy; omega
        · omega, q1.trans hc (fun i _ e => (h5y i (ho i e)).1), q2, q3, q4, q5, q6, q7, by omega, q9, q10⟩
theorem StatesAt.grow {A A' : Option Addr} {n c c' : Nat} {own : Option Nat} {ps : List Nat} (h1 : Own w 51 own A n c (ps.map fun p => Value.pointer (some ⟨p, 0, none⟩))) (h2 : ∀ g, own = some g → Y g) (h3 : ps.length = sts.length) (h4 : ∀ (j p : Nat) (t : LSt), ps[j]? = some p → sts[j]? = some t → RefAt Z w p t)
    {own' : Option Nat} {C : Nat} {t : LSt} (hC : RefAt Z w C t) (hO : Own w' 51 own' A' (n + 1) c' ((ps.map fun p => Value.pointer (some ⟨p, 0, none⟩)) ++ [Value.pointer (some ⟨C, 0, none⟩)])) (hc : Chg (fun i => own = some i) w w') (hZY : ∀ i, Z i → ¬ Y i) :
    StatesAt Z (fun i => Y i ∨ own' = some i) (sts ++ [t]) A' (n + 1) c' w' := by
  refine ⟨own', ps ++ [C], by rw [List.map_append]; exact hO, fun g hg => .inr hg, by rw [List.length_append, List.length_append, h3]; rfl, fun j p x hp hx => ?_⟩
  have hk : ∀ {q : Nat} {y : LSt}, RefAt Z w q y → RefAt Z w' q y := fun g => g.chg hc fun i _ hz e => hZY i hz (h2 i e)
  by_cases hj : j < ps.length
  · rw [List.getElem?_append_left hj] at hp
    rw [List.getElem?_append_left (by omega)] at hx
    exact hk (h4 j p x hp hx)
  · rw [List.getElem?_append_right (by omega)] at hp
    rw [List.getElem?_append_right (by omega)] at hx
    have hj0 : j - ps.length = 0 := by
      have := (List.getElem?_eq_some_iff.1 hp).1
      simp at this; omega
    rw [hj0] at hp
    rw [show j - sts.length = 0 by omega] at hx
    cases hp
    cases hx
    exact hk hC
end
/-- where WalSurvives' loop stands -/
def SurvAt (W D : Nat) (w0 : World) (k L R : Nat) (A : Option Addr) (n c : Nat) (w : World) : Prop :=
  ∃ (Z Y : Nat → Prop) (t : LSt) (sts : List LSt), Play3 W D R Z Y w0 k L t t sts w ∧ StatesAt Z Y sts A n c w
/-- .. ahead of the state that is added -/
def SurvMid (W D : Nat) (w0 : World) (k L R : Nat) (A : Option Addr) (n c : Nat) (w : World) : Prop :=
  ∃ (Z Y : Nat → Prop) (t : LSt) (sts : List LSt), Play3 W D R Z Y w0 k L t t (sts ++ [t]) w ∧ StatesAt Z Y sts A n c w
end Go.Proofs.Ytlnjadnddldjeaa
