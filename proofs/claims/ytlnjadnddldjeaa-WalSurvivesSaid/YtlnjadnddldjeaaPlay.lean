/-
  A log and the document's log side by side: what each call does to both, in one form; law 21's alike over them.
-/
import Derived.Test.YtlnjadnddldjeaaAlike
import Derived.Test.YtlnjadnddldjeaaWalNumbers
namespace Go.Proofs.Ytlnjadnddldjeaa
open Go.RowKit
set_option linter.unusedVariables false
set_option linter.unusedSimpArgs false

/-- A log (L, over the disk D) that holds tx and the document's log (R) that holds ty; neither touches Z or Y, and Y holds nothing of them; k bounds what was written. -/
def Play2 (W D R : Nat) (Z Y : Nat → Prop) (w0 : World) (k L : Nat) (tx ty : LSt) (sa : Bool) (w : World) : Prop :=
  ∃ (V U : Nat → Prop) (es : List Ent) (safe : Nat), WAt V w L D es safe tx ∧ RefAt U w R ty ∧ (∀ i, V i → W ≤ i ∧ i < w.heap.size ∧ ¬ U i ∧ ¬ Z i ∧ ¬ Y i) ∧ (∀ i, U i → W ≤ i ∧ i < w.heap.size ∧ ¬ Y i) ∧ (∀ i, Z i → i < w.heap.size ∧ i ≠ R) ∧ (∀ i, Y i → W ≤ i ∧ i < w.heap.size) ∧
    Chg (fun i => W ≤ i) w0 w ∧ (eb es).length ≤ 242 + 121 * k ∧ tx.rs.length ≤ k ∧ tx.note.size ≤ 100 ∧ (∀ s ∈ tx.rs, s.size ≤ 100) ∧ ty.rs.length ≤ k ∧ k ≤ 200 ∧ W ≤ w.heap.size ∧ (sa = true → safe = (eb es).length)
/-- what Put answers and leaves -/
def pBad (t : LSt) (n : Int) : Prop := n < (t.f : Int) ∨ ((t.f + t.rs.length : Nat) : Int) < n ∨ 1073741824 ≤ n
instance (t : LSt) (n : Int) : Decidable (pBad t n) := by unfold pBad; infer_instance
def pN (t : LSt) (n : Int) : Int := if pBad t n then 1 else 0
def pS (t : LSt) (n : Int) (s : ByteArray) : LSt := if pBad t n then t else putS t n.toNat s
def bBad (t : LSt) (n : Int) : Prop := n < (t.f : Int) ∨ 1073741824 < n
instance (t : LSt) (n : Int) : Decidable (bBad t n) := by unfold bBad; infer_instance
def bN (t : LSt) (n : Int) : Int := if bBad t n then 1 else 0
def bS (t : LSt) (n : Int) (s : ByteArray) : LSt := if bBad t n then t else baseS t n.toNat s
def mS (t : LSt) (s : ByteArray) : LSt := { t with note := s }

section
variable {W D R k L : Nat} {Z Y : Nat → Prop} {w0 w w' : World} {tx ty : LSt} {sa : Bool}
theorem Play2.keep (h : Play2 W D R Z Y w0 k L tx ty sa w) (hc : Chg (fun _ => False) w w') : Play2 W D R Z Y w0 k L tx ty sa w' := by
  obtain ⟨V, U, es, safe, h1, h2, h3, h4, h5, h5y, h6, h7, h8, h9, h10, h11, h12, h13, h14⟩ := h
  have z := hc.size
  exact ⟨V, U, es, safe, h1.keep hc, h2.keep hc, fun i hi => by have := h3 i hi; exact ⟨this.1, by omega, this.2.2⟩, fun i hi => by have := h4 i hi; exact ⟨this.1, by omega, this.2.2⟩, fun i hi => by have := h5 i hi; omega, fun i hi => by have := h5y i hi; omega, h6.trans hc (fun _ _ h => h.elim), h7, h8, h9, h10, h11, h12, by omega, h14⟩
/-- a block that was made by the side of them -/
theorem Play2.addY (h : Play2 W D R Z Y w0 k L tx ty sa w) (hc : Chg (fun _ => False) w w') (hz : w.heap.size < w'.heap.size) : Play2 W D R Z (fun i => Y i ∨ i = w.heap.size) w0 k L tx ty sa w' := by
  obtain ⟨V, U, es, safe, h1, h2, h3, h4, h5, h5y, h6, h7, h8, h9, h10, h11, h12, h13, h14⟩ := h
  exact ⟨V, U, es, safe, h1.keep hc, h2.keep hc, fun i hi => by have := h3 i hi; exact ⟨this.1, by omega, this.2.2.1, this.2.2.2.1, fun hz => hz.elim this.2.2.2.2 (fun e => by omega)⟩, fun i hi => by have := h4 i hi; exact ⟨this.1, by omega, fun hz => hz.elim this.2.2 (fun e => by omega)⟩,
    fun i hi => by have := h5 i hi; omega, fun i hi => by
      rcases hi with hi | rfl
      · have := h5y i hi; omega
      · omega, h6.trans hc (fun _ _ h => h.elim), h7, h8, h9, h10, h11, h12, by omega, h14⟩
theorem Play2.ymono {Y' : Nat → Prop} (h : Play2 W D R Z Y w0 k L tx ty sa w) (hz : ∀ i, Y' i → Y i) : Play2 W D R Z Y' w0 k L tx ty sa w := by
  obtain ⟨V, U, es, safe, h1, h2, h3, h4, h5, h5y, h6⟩ := h
  exact ⟨V, U, es, safe, h1, h2, fun i hi => by have := h3 i hi; exact ⟨this.1, this.2.1, this.2.2.1, this.2.2.2.1, fun hh => this.2.2.2.2 (hz i hh)⟩, fun i hi => by have := h4 i hi; exact ⟨this.1, this.2.1, fun hh => this.2.2 (hz i hh)⟩, h5, fun i hi => h5y i (hz i hi), h6⟩
theorem Play2.unsafe_ (h : Play2 W D R Z Y w0 k L tx ty sa w) : Play2 W D R Z Y w0 k L tx ty false w := by
  obtain ⟨V, U, es, safe, h1, h2, h3, h4, h5, h5y, h6, h7, h8, h9, h10, h11, h12, h13, h14⟩ := h
  exact ⟨V, U, es, safe, h1, h2, h3, h4, h5, h5y, h6, h7, h8, h9, h10, h11, h12, h13, fun h => by cases h⟩
theorem Play2.base (h : Play2 W D R Z Y w0 k L tx ty sa w) : Chg (fun i => W ≤ i) w0 w ∧ W ≤ w.heap.size := by
  obtain ⟨V, U, es, safe, h1, h2, h3, h4, h5, h5y, h6, h7, h8, h9, h10, h11, h12, h13, h14⟩ := h
  exact ⟨h6, h13⟩
/-- a store into a block of Y -/
theorem Play2.chgY (h : Play2 W D R Z Y w0 k L tx ty sa w) (hc : Chg Y w w') : Play2 W D R Z Y w0 k L tx ty sa w' := by
  obtain ⟨V, U, es, safe, h1, h2, h3, h4, h5, h5y, h6, h7, h8, h9, h10, h11, h12, h13, h14⟩ := h
  have z := hc.size
  exact ⟨V, U, es, safe, h1.chg hc (fun i _ hv hy => (h3 i hv).2.2.2.2 hy), h2.chg hc (fun i _ hu hy => (h4 i hu).2.2 hy), fun i hi => by have := h3 i hi; exact ⟨this.1, by omega, this.2.2⟩, fun i hi => by have := h4 i hi; exact ⟨this.1, by omega, this.2.2⟩, fun i hi => by have := h5 i hi; omega, fun i hi => by have := h5y i hi; omega, h6.trans hc (fun i _ e => (h5y i e).1), h7, h8, h9, h10, h11, h12, by omega, h14⟩
/-- behind a call on the log: V grew by what is new -/
theorem Play2.ofX {V U : Nat → Prop} {es' : List Ent} {safe' k' L' : Nat} {tx' : LSt} {sa' : Bool} (h1 : WAt (fun i => V i ∨ w.heap.size ≤ i) w' L' D es' safe' tx') (hc : Chg (fun i => V i ∨ w.heap.size ≤ i) w w')
    (h2 : RefAt U w R ty) (h3 : ∀ i, V i → W ≤ i ∧ i < w.heap.size ∧ ¬ U i ∧ ¬ Z i ∧ ¬ Y i) (h4 : ∀ i, U i → W ≤ i ∧ i < w.heap.size ∧ ¬ Y i) (h5 : ∀ i, Z i → i < w.heap.size ∧ i ≠ R) (h5y : ∀ i, Y i → W ≤ i ∧ i < w.heap.size)
    (h6 : Chg (fun i => W ≤ i) w0 w) (h7 : (eb es').length ≤ 242 + 121 * k') (h8 : tx'.rs.length ≤ k') (h9 : tx'.note.size ≤ 100) (h10 : ∀ s ∈ tx'.rs, s.size ≤ 100) (h11 : ty.rs.length ≤ k') (h12 : k' ≤ 200) (h13 : W ≤ w.heap.size) (h14 : sa' = true → safe' = (eb es').length) :
    Play2 W D R Z Y w0 k' L' tx' ty sa' w' ∧ Chg (fun i => W ≤ i ∧ ¬ Z i ∧ ¬ Y i) w w' := by
  have z := hc.size
  refine ⟨⟨fun i => (V i ∨ w.heap.size ≤ i) ∧ i < w'.heap.size, U, es', safe', h1.mono (fun i hi hv => ⟨hv, hi⟩), h2.chg hc (fun i hi hu hv => hv.elim (fun hv => (h3 i hv).2.2.1 hu) (fun hv => by omega)), fun i hi => ?_, fun i hi => by have := h4 i hi; exact ⟨this.1, by omega, this.2.2⟩, fun i hi => by have := h5 i hi; omega, fun i hi => by have := h5y i hi; omega, h6.trans hc (fun i _ hv => ?_), h7, h8, h9, h10, h11, h12, by omega, h14⟩, hc.mono fun i hi hv => ?_⟩
  · rcases hi.1 with hv | hv
    · have := h3 i hv; exact ⟨this.1, hi.2, this.2.2⟩
    · exact ⟨by omega, hi.2, fun hu => by have := h4 i hu; omega, fun hz => by have := h5 i hz; omega, fun hy => by have := h5y i hy; omega⟩
  · rcases hv with hv | hv
    · exact (h3 i hv).1
    · show W ≤ i; omega
  · rcases hv with hv | hv
    · have := h3 i hv; exact ⟨this.1, this.2.2.2⟩
    · omega
/-- behind a call on the document's log -/
theorem Play2.ofR {V U : Nat → Prop} {es : List Ent} {safe : Nat} {ty' : LSt} (h2 : RefAt (fun i => U i ∨ w.heap.size ≤ i) w' R ty') (hc : Chg (fun i => i = R) w w') (hR : U R)
    (h1 : WAt V w L D es safe tx) (h3 : ∀ i, V i → W ≤ i ∧ i < w.heap.size ∧ ¬ U i ∧ ¬ Z i ∧ ¬ Y i) (h4 : ∀ i, U i → W ≤ i ∧ i < w.heap.size ∧ ¬ Y i) (h5 : ∀ i, Z i → i < w.heap.size ∧ i ≠ R) (h5y : ∀ i, Y i → W ≤ i ∧ i < w.heap.size)
    (h6 : Chg (fun i => W ≤ i) w0 w) (h7 : (eb es).length ≤ 242 + 121 * k) (h8 : tx.rs.length ≤ k) (h9 : tx.note.size ≤ 100) (h10 : ∀ s ∈ tx.rs, s.size ≤ 100) (h11 : ty'.rs.length ≤ k) (h12 : k ≤ 200) (h13 : W ≤ w.heap.size) (h14 : sa = true → safe = (eb es).length) :
    Play2 W D R Z Y w0 k L tx ty' sa w' ∧ Chg (fun i => W ≤ i ∧ ¬ Z i ∧ ¬ Y i) w w' := by
  have z := hc.size
  have hr := h4 R hR
  refine ⟨⟨V, fun i => (U i ∨ w.heap.size ≤ i) ∧ i < w'.heap.size, es, safe, h1.chg hc (fun i hi hv e => (h3 i hv).2.2.1 (by rw [e]; exact hR)), h2.mono (fun i hi hu => ⟨hu, hi⟩), fun i hi => ?_, fun i hi => ?_, fun i hi => by have := h5 i hi; omega, fun i hi => by have := h5y i hi; omega, h6.trans hc (fun i _ e => by rw [e]; exact hr.1), h7, h8, h9, h10, h11, h12, by omega, h14⟩, hc.mono fun i hi e => ?_⟩
  · have := h3 i hi; exact ⟨this.1, by omega, fun hu => hu.1.elim this.2.2.1 (fun hh => by omega), this.2.2.2⟩
  · rcases hi.1 with hu | hu
    · have := h4 i hu; exact ⟨this.1, hi.2, this.2.2⟩
    · exact ⟨by omega, hi.2, fun hy => by have := h5y i hy; omega⟩
  · subst e
    exact ⟨hr.1, fun hz => (h5 i hz).2 rfl, hr.2.2⟩
theorem not_bad {t : LSt} {n : Int} (h : ¬ pBad t n) : ∃ m : Nat, (m : Int) = n ∧ n.toNat = m ∧ t.f ≤ m ∧ m ≤ t.f + t.rs.length ∧ m < 1073741824 := by
  unfold pBad at h
  exact ⟨n.toNat, by omega, rfl, by omega, by omega, by omega⟩
theorem not_bbad {t : LSt} {n : Int} (h : ¬ bBad t n) : ∃ m : Nat, (m : Int) = n ∧ n.toNat = m ∧ t.f ≤ m ∧ m ≤ 1073741824 := by
  unfold bBad at h
  exact ⟨n.toNat, by omega, rfl, by omega, by omega⟩
theorem putS_sizes {t : LSt} {n : Nat} {s : ByteArray} (h : ∀ x ∈ t.rs, x.size ≤ 100) (hs : s.size ≤ 100) : ∀ x ∈ (putS t n s).rs, x.size ≤ 100 := by
  intro x hx
  rcases List.mem_append.1 hx with hx | hx
  · exact h x (List.mem_of_mem_take hx)
  · rw [List.mem_singleton.1 hx]; exact hs
theorem putS_len {t : LSt} {n : Nat} {s : ByteArray} : (putS t n s).rs.length ≤ t.rs.length + 1 := by
  show (t.rs.take (n - t.f) ++ [s]).length ≤ _
  rw [List.length_append, List.length_take, List.length_singleton]; omega

/-- a call on both or one: its answer, what is held then, and that nothing else changed -/
def Did2 (v : Value) (W D R : Nat) (Z Y : Nat → Prop) (w0 : World) (k L : Nat) (tx ty : LSt) (sa : Bool) (w : World) (e : Ending) (w' : World) : Prop :=
  e = .returned v ∧ Play2 W D R Z Y w0 k L tx ty sa w' ∧ Chg (fun i => W ≤ i ∧ ¬ Z i ∧ ¬ Y i) w w'
theorem Play2.xput (h : Play2 W D R Z Y w0 k L tx ty sa w) (n : Int) (s : ByteArray) (hs : s.size ≤ 100) (hk : k < 200) :
    Calls Try.prog 11 #[.pointer (some ⟨L, 0, none⟩), .int .i64 n, .string s] w (Did2 (.int .i64 (pN tx n)) W D R Z Y w0 (k + 1) L (pS tx n s) ty false w) := by
  obtain ⟨V, U, es, safe, h1, h2, h3, h4, h5, h5y, h6, h7, h8, h9, h10, h11, h12, h13, h14⟩ := id h
  by_cases hb : pBad tx n
  · rw [pN, if_pos hb, pS, if_pos hb]
    refine (WPut_arg h1 hb).mono ?_
    rintro e w' ⟨rfl, q, rfl⟩
    have kq := (Chg.refl (fun _ => False) w).drewN q
    refine ⟨rfl, ?_, kq.wide⟩
    obtain ⟨V, U, es, safe, h1, h2, h3, h4, h5, h5y, h6, h7, h8, h9, h10, h11, h12, h13, h14⟩ := (h.keep kq).unsafe_
    exact ⟨V, U, es, safe, h1, h2, h3, h4, h5, h5y, h6, by omega, by omega, h9, h10, by omega, by omega, h13, h14⟩
  · obtain ⟨m, hm, hm', g1, g2, g3⟩ := not_bad hb
    rw [pN, if_neg hb, pS, if_neg hb, hm']
    have h1' : WAt (fun i => V i ∨ w.heap.size ≤ i) w L D es safe tx := h1.mono fun i _ hv => .inl hv
    refine (WPut h1' (fun i hi => .inr hi) hm g1 g2 g3 (by omega) (by omega) (by omega)).mono ?_
    rintro e w' ⟨rfl, g, hc⟩
    have hl := putS_len (t := tx) (n := m) (s := s)
    obtain ⟨a, b⟩ := Play2.ofX (k' := k + 1) (sa' := false) g hc h2 h3 h4 h5 h5y h6 (by rw [eb_snoc_length]; show _ + (s.size + 21) ≤ _; omega) (by omega) h9 (putS_sizes h10 hs) (by omega) (by omega) h13 (fun h => by cases h)
    exact ⟨rfl, a, b⟩
theorem Play2.xmeta (h : Play2 W D R Z Y w0 k L tx ty sa w) (s : ByteArray) (hs : s.size ≤ 100) (hk : k < 200) :
    Calls Try.prog 24 #[.pointer (some ⟨L, 0, none⟩), .string s] w (Did2 (.int .i64 0) W D R Z Y w0 (k + 1) L (mS tx s) ty false w) := by
  obtain ⟨V, U, es, safe, h1, h2, h3, h4, h5, h5y, h6, h7, h8, h9, h10, h11, h12, h13, h14⟩ := id h
  have h1' : WAt (fun i => V i ∨ w.heap.size ≤ i) w L D es safe tx := h1.mono fun i _ hv => .inl hv
  refine (WMeta h1' (fun i hi => .inr hi) (by omega) (by omega)).mono ?_
  rintro e w' ⟨rfl, g, hc⟩
  obtain ⟨a, b⟩ := Play2.ofX (k' := k + 1) (sa' := false) g hc h2 h3 h4 h5 h5y h6 (by rw [eb_snoc_length]; show _ + (s.size + 21) ≤ _; omega) (Nat.le_succ_of_le h8) hs h10 (by omega) (by omega) h13 (fun h => by cases h)
  exact ⟨rfl, a, b⟩
theorem Play2.xbase (h : Play2 W D R Z Y w0 k L tx ty sa w) (n : Int) (s : ByteArray) (hs : s.size ≤ 100) (hk : k < 200) :
    Calls Try.prog 27 #[.pointer (some ⟨L, 0, none⟩), .int .i64 n, .string s] w (Did2 (.int .i64 (bN tx n)) W D R Z Y w0 (k + 1) L (bS tx n s) ty false w) := by
  obtain ⟨V, U, es, safe, h1, h2, h3, h4, h5, h5y, h6, h7, h8, h9, h10, h11, h12, h13, h14⟩ := id h
  by_cases hb : bBad tx n
  · rw [bN, if_pos hb, bS, if_pos hb]
    refine (WBase_arg h1 hb).mono ?_
    rintro e w' ⟨rfl, rfl⟩
    refine ⟨rfl, ?_, Chg.refl _ w⟩
    exact ⟨V, U, es, safe, h1, h2, h3, h4, h5, h5y, h6, by omega, by omega, h9, h10, by omega, by omega, h13, fun h => by cases h⟩
  · obtain ⟨m, hm, hm', g1, g2⟩ := not_bbad hb
    rw [bN, if_neg hb, bS, if_neg hb, hm']
    have hd : (tx.rs.drop (m - tx.f)).length ≤ k := by rw [List.length_drop]; omega
    have hib := imgs_length_le (f := m) (snap := s) (note := tx.note) (a := tx.rs.drop (m - tx.f)) (m := 100) (fun x hx => h10 x (List.mem_of_mem_drop hx))
    have hmul : (tx.rs.drop (m - tx.f)).length * (100 + 21) ≤ k * 121 := Nat.mul_le_mul_right 121 hd
    have h1' : WAt (fun i => V i ∨ w.heap.size ≤ i) w L D es safe tx := h1.mono fun i _ hv => .inl hv
    refine (WBase h1' (fun i hi => .inr hi) hm g1 g2 (by omega) (by omega)).mono ?_
    rintro e w' ⟨rfl, g, hc⟩
    obtain ⟨a, b⟩ := Play2.ofX (k' := k + 1) (sa' := false) g hc h2 h3 h4 h5 h5y h6 (by omega) (by show (tx.rs.drop (m - tx.f)).length ≤ _; omega) h9 (fun x hx => h10 x (List.mem_of_mem_drop hx)) (by omega) (by omega) h13 (fun h => by cases h)
    exact ⟨rfl, a, b⟩
theorem Play2.xsync (h : Play2 W D R Z Y w0 k L tx ty sa w) :
    Calls Try.prog 13 #[.pointer (some ⟨L, 0, none⟩)] w (Did2 (.tuple #[]) W D R Z Y w0 k L tx ty true w) := by
  obtain ⟨V, U, es, safe, h1, h2, h3, h4, h5, h5y, h6, h7, h8, h9, h10, h11, h12, h13, h14⟩ := h
  have h1' : WAt (fun i => V i ∨ w.heap.size ≤ i) w L D es safe tx := h1.mono fun i _ hv => .inl hv
  refine (WSync h1').mono ?_
  rintro e w' ⟨rfl, g, hc⟩
  obtain ⟨a, b⟩ := Play2.ofX (sa' := true) g hc h2 h3 h4 h5 h5y h6 h7 h8 h9 h10 h11 h12 h13 (fun _ => rfl)
  exact ⟨rfl, a, b⟩
theorem Play2.dsync (h : Play2 W D R Z Y w0 k L tx ty sa w) :
    Calls Try.prog 35 #[.pointer (some ⟨D, 0, none⟩)] w (Did2 (.tuple #[]) W D R Z Y w0 k L tx ty true w) := by
  obtain ⟨V, U, es, safe, h1, h2, h3, h4, h5, h5y, h6, h7, h8, h9, h10, h11, h12, h13, h14⟩ := h
  have h1' : WAt (fun i => V i ∨ w.heap.size ≤ i) w L D es safe tx := h1.mono fun i _ hv => .inl hv
  refine (DSync h1').mono ?_
  rintro e w' ⟨rfl, g, hc⟩
  obtain ⟨a, b⟩ := Play2.ofX (sa' := true) g hc h2 h3 h4 h5 h5y h6 h7 h8 h9 h10 h11 h12 h13 (fun _ => rfl)
  exact ⟨rfl, a, b⟩
/-- opened anew -/
def Opened2 (W D R : Nat) (Z Y : Nat → Prop) (w0 : World) (k : Nat) (tx ty : LSt) (w : World) (e : Ending) (w' : World) : Prop :=
  ∃ L, e = .returned (.tuple #[.pointer (some ⟨L, 0, none⟩), .int .i64 0]) ∧ Play2 W D R Z Y w0 k L tx ty false w' ∧ Chg (fun i => W ≤ i ∧ ¬ Z i ∧ ¬ Y i) w w'
theorem Play2.xopen (h : Play2 W D R Z Y w0 k L tx ty sa w) :
    Calls Try.prog 20 #[.pointer (some ⟨D, 0, none⟩)] w (Opened2 W D R Z Y w0 k tx ty w) := by
  obtain ⟨V, U, es, safe, h1, h2, h3, h4, h5, h5y, h6, h7, h8, h9, h10, h11, h12, h13, h14⟩ := h
  have h1' : WAt (fun i => V i ∨ w.heap.size ≤ i) w L D es safe tx := h1.mono fun i _ hv => .inl hv
  refine (WReopen h1' (fun i hi => .inr hi)).mono ?_
  rintro e w' ⟨L2, rfl, g, _, hc⟩
  obtain ⟨a, b⟩ := Play2.ofX (sa' := false) g hc h2 h3 h4 h5 h5y h6 h7 h8 h9 h10 h11 h12 h13 (fun h => by cases h)
  exact ⟨L2, rfl, a, b⟩
theorem Play2.rput (h : Play2 W D R Z Y w0 k L tx ty sa w) (n : Int) (s : ByteArray) (hs : s.size ≤ 100) (hl : (pS ty n s).rs.length ≤ k) :
    Calls Try.prog 31 #[.pointer (some ⟨R, 0, none⟩), .int .i64 n, .string s] w (Did2 (.int .i64 (pN ty n)) W D R Z Y w0 k L tx (pS ty n s) sa w) := by
  obtain ⟨V, U, es, safe, h1, h2, h3, h4, h5, h5y, h6, h7, h8, h9, h10, h11, h12, h13, h14⟩ := id h
  by_cases hb : pBad ty n
  · rw [pN, if_pos hb, pS, if_pos hb]
    refine (RPut_arg h2 hb).mono ?_
    rintro e w' ⟨rfl, q, rfl⟩
    have kq := (Chg.refl (fun _ => False) w).drewN q
    exact ⟨rfl, h.keep kq, kq.wide⟩
  · obtain ⟨m, hm, hm', g1, g2, g3⟩ := not_bad hb
    rw [pS, if_neg hb, hm'] at hl
    rw [pN, if_neg hb, pS, if_neg hb, hm']
    have h2' : RefAt (fun i => U i ∨ w.heap.size ≤ i) w R ty := h2.mono fun i _ hv => .inl hv
    refine (RPut_calls h2' (fun i hi => .inr hi) hm g1 g2 g3 (by omega) (by omega)).mono ?_
    rintro e w' ⟨rfl, g, hc⟩
    obtain ⟨a, b⟩ := Play2.ofR (sa := sa) g hc h2.1 h1 h3 h4 h5 h5y h6 h7 h8 h9 h10 hl h12 h13 h14
    exact ⟨rfl, a, b⟩
theorem Play2.rmeta (h : Play2 W D R Z Y w0 k L tx ty sa w) (s : ByteArray) (hs : s.size ≤ 100) :
    Calls Try.prog 32 #[.pointer (some ⟨R, 0, none⟩), .string s] w (Did2 (.int .i64 0) W D R Z Y w0 k L tx (mS ty s) sa w) := by
  obtain ⟨V, U, es, safe, h1, h2, h3, h4, h5, h5y, h6, h7, h8, h9, h10, h11, h12, h13, h14⟩ := h
  have h2' : RefAt (fun i => U i ∨ w.heap.size ≤ i) w R ty := h2.mono fun i _ hv => .inl hv
  refine (RMeta_calls h2' s (by omega)).mono ?_
  rintro e w' ⟨rfl, g, hc⟩
  obtain ⟨a, b⟩ := Play2.ofR (ty' := mS ty s) (sa := sa) g hc h2.1 h1 h3 h4 h5 h5y h6 h7 h8 h9 h10 h11 h12 h13 h14
  exact ⟨rfl, a, b⟩
theorem Play2.rbase (h : Play2 W D R Z Y w0 k L tx ty sa w) (n : Int) (s : ByteArray) (hs : s.size ≤ 100) :
    Calls Try.prog 33 #[.pointer (some ⟨R, 0, none⟩), .int .i64 n, .string s] w (Did2 (.int .i64 (bN ty n)) W D R Z Y w0 k L tx (bS ty n s) sa w) := by
  obtain ⟨V, U, es, safe, h1, h2, h3, h4, h5, h5y, h6, h7, h8, h9, h10, h11, h12, h13, h14⟩ := id h
  by_cases hb : bBad ty n
  · rw [bN, if_pos hb, bS, if_pos hb]
    refine (RBase_arg h2 hb).mono ?_
    rintro e w' ⟨rfl, rfl⟩
    exact ⟨rfl, h, Chg.refl _ w⟩
  · obtain ⟨m, hm, hm', g1, g2⟩ := not_bbad hb
    rw [bN, if_neg hb, bS, if_neg hb, hm']
    have h2' : RefAt (fun i => U i ∨ w.heap.size ≤ i) w R ty := h2.mono fun i _ hv => .inl hv
    refine (RBase_calls h2' (fun i hi => .inr hi) hm g1 g2 (by omega)).mono ?_
    rintro e w' ⟨rfl, g, hc⟩
    obtain ⟨a, b⟩ := Play2.ofR (ty' := baseS ty m s) (sa := sa) g hc h2.1 h1 h3 h4 h5 h5y h6 h7 h8 h9 h10 (by show (ty.rs.drop (m - ty.f)).length ≤ _; rw [List.length_drop]; omega) h12 h13 h14
    exact ⟨rfl, a, b⟩
theorem Play2.alike (h : Play2 W D R Z Y w0 k L tx ty sa w) : Calls Try.prog 34 #[.pointer (some ⟨L, 0, none⟩), .pointer (some ⟨R, 0, none⟩)] w (AlikeOut tx ty w) := by
  obtain ⟨V, U, es, safe, h1, h2, -⟩ := h
  exact alike_calls h1 h2
theorem Play2.safe_ (h : Play2 W D R Z Y w0 k L tx ty true w) : ∃ n : Nat, Calls Try.prog 14 #[.pointer (some ⟨D, 0, none⟩)] w (fun e w' => e = .returned (.int .i64 (n : Int)) ∧ w' = w) ∧ ∀ w', Chg (fun _ => False) w w' → ∃ bs, Calls Try.prog 16 #[.pointer (some ⟨D, 0, none⟩)] w' (Cloned w' n bs) := by
  obtain ⟨V, U, es, safe, h1, h2, h3, h4, h5, h5y, h6, h7, h8, h9, h10, h11, h12, h13, h14⟩ := h
  obtain rfl := h14 rfl
  exact ⟨_, WSafe h1, fun w' hc => ⟨_, WBytes (h1.keep hc)⟩⟩
end
end Go.Proofs.Ytlnjadnddldjeaa
