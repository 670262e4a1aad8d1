/-
  A log, the document's log and what the log was at each time since it was safe: what each call does to them, in one form.
-/
import Derived.Test.YtlnjadnddldjeaaWalPlays
namespace Go.Proofs.Ytlnjadnddldjeaa
open Go.RowKit
set_option linter.unusedVariables false
set_option linter.unusedSimpArgs false

/-- what is held is small -/
def TOK (k : Nat) (t : LSt) : Prop := t.rs.length ≤ k ∧ t.note.size ≤ 100 ∧ (∀ s ∈ t.rs, s.size ≤ 100) ∧ t.f ≤ 1 + 6 * k
theorem TOK.more {k : Nat} {t : LSt} (h : TOK k t) : TOK (k + 1) t := ⟨by have := h.1; omega, h.2.1, h.2.2.1, by have := h.2.2.2; omega⟩
/-- safe is so many records' bytes, and behind each of the longer rows the log held one of sts -/
def Good (k : Nat) (es : List Ent) (safe : Nat) (sts : List LSt) : Prop := (∃ i, i ≤ es.length ∧ safe = (eb (es.take i)).length ∧ ∀ m, i ≤ m → m ≤ es.length → ∃ t, t ∈ sts ∧ rdos init21 (es.take m) = some t) ∧ ∀ t, t ∈ sts → TOK k t
theorem Good.snoc {k : Nat} {es : List Ent} {safe : Nat} {sts : List LSt} {e : Ent} {t : LSt} (h : Good k es safe sts) (ht : rdos init21 (es ++ [e]) = some t) (hk : TOK (k + 1) t) : Good (k + 1) (es ++ [e]) safe (sts ++ [t]) := by
  obtain ⟨⟨i, h1, h2, h3⟩, h4⟩ := h
  have hl : (es ++ [e]).length = es.length + 1 := by rw [List.length_append]; rfl
  refine ⟨⟨i, by omega, by rw [List.take_append_of_le_length h1]; exact h2, fun m hm1 hm2 => ?_⟩, fun x hx => ?_⟩
  · by_cases hm : m ≤ es.length
    · obtain ⟨t', g1, g2⟩ := h3 m hm1 hm
      exact ⟨t', List.mem_append.2 (.inl g1), by rw [List.take_append_of_le_length hm]; exact g2⟩
    · have : m = (es ++ [e]).length := by omega
      subst this
      exact ⟨t, List.mem_append.2 (.inr (List.mem_singleton.2 rfl)), by rw [List.take_length]; exact ht⟩
  · rcases List.mem_append.1 hx with hx | hx
    · exact (h4 x hx).more
    · rw [List.mem_singleton.1 hx]; exact hk
theorem Good.all {k : Nat} {es : List Ent} {t : LSt} (ht : rdos init21 es = some t) (hk : TOK k t) : Good k es (eb es).length [t] :=
  ⟨⟨es.length, Nat.le_refl _, by rw [List.take_length], fun m h1 h2 => ⟨t, List.mem_singleton.2 rfl, by
    have : m = es.length := by omega
    rw [this, List.take_length]; exact ht⟩⟩, fun x hx => by rw [List.mem_singleton.1 hx]; exact hk⟩
def Play3 (W D R : Nat) (Z Y : Nat → Prop) (w0 : World) (k L : Nat) (tx ty : LSt) (sts : List LSt) (w : World) : Prop :=
  ∃ (V U : Nat → Prop) (es : List Ent) (safe : Nat), WAt V w L D es safe tx ∧ RefAt U w R ty ∧ (∀ i, V i → W ≤ i ∧ i < w.heap.size ∧ ¬ U i ∧ ¬ Z i ∧ ¬ Y i) ∧ (∀ i, U i → W ≤ i ∧ i < w.heap.size ∧ ¬ Y i) ∧ (∀ i, Z i → W ≤ i ∧ i < w.heap.size ∧ i ≠ R ∧ ¬ Y i) ∧ (∀ i, Y i → W ≤ i ∧ i < w.heap.size) ∧
    Chg (fun i => W ≤ i) w0 w ∧ (eb es).length ≤ 242 + 121 * k ∧ tx.rs.length ≤ k ∧ tx.note.size ≤ 100 ∧ (∀ s ∈ tx.rs, s.size ≤ 100) ∧ ty.rs.length ≤ k ∧ k ≤ 200 ∧ W ≤ w.heap.size ∧ tx.f ≤ 1 + 6 * k ∧ Good k es safe sts
section
variable {W D R k L : Nat} {Z Y : Nat → Prop} {w0 w w' : World} {tx ty : LSt} {sts : List LSt}
theorem Play3.keep (h : Play3 W D R Z Y w0 k L tx ty sts w) (hc : Chg (fun _ => False) w w') : Play3 W D R Z Y w0 k L tx ty sts w' := by
  obtain ⟨V, U, es, safe, h1, h2, h3, h4, h5, h5y, h6, h7, h8, h9, h10, h11, h12, h13, h14⟩ := h
  have z := hc.size
  exact ⟨V, U, es, safe, h1.keep hc, h2.keep hc, fun i hi => by have := h3 i hi; exact ⟨this.1, by omega, this.2.2⟩, fun i hi => by have := h4 i hi; exact ⟨this.1, by omega, this.2.2⟩, fun i hi => by have := h5 i hi; exact ⟨this.1, by omega, this.2.2⟩, fun i hi => by have := h5y i hi; omega, h6.trans hc (fun _ _ h => h.elim), h7, h8, h9, h10, h11, h12, by omega, h14⟩
theorem Play3.addY (h : Play3 W D R Z Y w0 k L tx ty sts w) (hc : Chg (fun _ => False) w w') (hz : w.heap.size < w'.heap.size) : Play3 W D R Z (fun i => Y i ∨ i = w.heap.size) w0 k L tx ty sts w' := by
  obtain ⟨V, U, es, safe, h1, h2, h3, h4, h5, h5y, h6, h7, h8, h9, h10, h11, h12, h13, h14⟩ := h
  exact ⟨V, U, es, safe, h1.keep hc, h2.keep hc, fun i hi => by have := h3 i hi; exact ⟨this.1, by omega, this.2.2.1, this.2.2.2.1, fun hz => hz.elim this.2.2.2.2 (fun e => by omega)⟩, fun i hi => by have := h4 i hi; exact ⟨this.1, by omega, fun hz => hz.elim this.2.2 (fun e => by omega)⟩,
    fun i hi => by have := h5 i hi; exact ⟨this.1, by omega, this.2.2.1, fun hz => hz.elim this.2.2.2 (fun e => by omega)⟩, fun i hi => by
      rcases hi with hi | rfl
      · have := h5y i hi; omega
      · omega, h6.trans hc (fun _ _ h => h.elim), h7, h8, h9, h10, h11, h12, by omega, h14⟩
theorem Play3.ymono {Y' : Nat → Prop} (h : Play3 W D R Z Y w0 k L tx ty sts w) (hz : ∀ i, Y' i → Y i) : Play3 W D R Z Y' w0 k L tx ty sts w := by
  obtain ⟨V, U, es, safe, h1, h2, h3, h4, h5, h5y, h6⟩ := h
  exact ⟨V, U, es, safe, h1, h2, fun i hi => by have := h3 i hi; exact ⟨this.1, this.2.1, this.2.2.1, this.2.2.2.1, fun hh => this.2.2.2.2 (hz i hh)⟩, fun i hi => by have := h4 i hi; exact ⟨this.1, this.2.1, fun hh => this.2.2 (hz i hh)⟩, fun i hi => by have := h5 i hi; exact ⟨this.1, this.2.1, this.2.2.1, fun hh => this.2.2.2 (hz i hh)⟩, fun i hi => h5y i (hz i hi), h6⟩
theorem Play3.zmono {Z' : Nat → Prop} (h : Play3 W D R Z Y w0 k L tx ty sts w) (hz : ∀ i, Z' i → Z i) : Play3 W D R Z' Y w0 k L tx ty sts w := by
  obtain ⟨V, U, es, safe, h1, h2, h3, h4, h5, h5y, h6⟩ := h
  exact ⟨V, U, es, safe, h1, h2, fun i hi => by have := h3 i hi; exact ⟨this.1, this.2.1, this.2.2.1, fun hh => this.2.2.2.1 (hz i hh), this.2.2.2.2⟩, h4, fun i hi => h5 i (hz i hi), h5y, h6⟩
theorem Play3.base (h : Play3 W D R Z Y w0 k L tx ty sts w) : Chg (fun i => W ≤ i) w0 w ∧ W ≤ w.heap.size := by
  obtain ⟨V, U, es, safe, h1, h2, h3, h4, h5, h5y, h6, h7, h8, h9, h10, h11, h12, h13, h14⟩ := h
  exact ⟨h6, h13⟩
theorem Play3.facts (h : Play3 W D R Z Y w0 k L tx ty sts w) : tx.f ≤ 1 + 6 * k ∧ tx.rs.length ≤ k ∧ ty.rs.length ≤ k ∧ k ≤ 200 ∧ R < w.heap.size ∧ (∀ i, Y i → W ≤ i ∧ i < w.heap.size) ∧ (∀ i, Z i → W ≤ i ∧ i < w.heap.size ∧ i ≠ R ∧ ¬ Y i) := by
  obtain ⟨V, U, es, safe, h1, h2, h3, h4, h5, h5y, h6, h7, h8, h9, h10, h11, h12, h13, h14, h15⟩ := h
  exact ⟨h14, h8, h11, h12, h2.lt, h5y, h5⟩
theorem Play3.chgY (h : Play3 W D R Z Y w0 k L tx ty sts w) (hc : Chg Y w w') : Play3 W D R Z Y w0 k L tx ty sts w' := by
  obtain ⟨V, U, es, safe, h1, h2, h3, h4, h5, h5y, h6, h7, h8, h9, h10, h11, h12, h13, h14⟩ := h
  have z := hc.size
  exact ⟨V, U, es, safe, h1.chg hc (fun i _ hv hy => (h3 i hv).2.2.2.2 hy), h2.chg hc (fun i _ hu hy => (h4 i hu).2.2 hy), fun i hi => by have := h3 i hi; exact ⟨this.1, by omega, this.2.2⟩, fun i hi => by have := h4 i hi; exact ⟨this.1, by omega, this.2.2⟩, fun i hi => by have := h5 i hi; exact ⟨this.1, by omega, this.2.2⟩, fun i hi => by have := h5y i hi; omega, h6.trans hc (fun i _ e => (h5y i e).1), h7, h8, h9, h10, h11, h12, by omega, h14⟩
theorem Play3.ofX {V U : Nat → Prop} {es' : List Ent} {safe' k' L' : Nat} {tx' : LSt} {sts' : List LSt} (h1 : WAt (fun i => V i ∨ w.heap.size ≤ i) w' L' D es' safe' tx') (hc : Chg (fun i => V i ∨ w.heap.size ≤ i) w w')
    (h2 : RefAt U w R ty) (h3 : ∀ i, V i → W ≤ i ∧ i < w.heap.size ∧ ¬ U i ∧ ¬ Z i ∧ ¬ Y i) (h4 : ∀ i, U i → W ≤ i ∧ i < w.heap.size ∧ ¬ Y i) (h5 : ∀ i, Z i → W ≤ i ∧ i < w.heap.size ∧ i ≠ R ∧ ¬ Y i) (h5y : ∀ i, Y i → W ≤ i ∧ i < w.heap.size)
    (h6 : Chg (fun i => W ≤ i) w0 w) (h7 : (eb es').length ≤ 242 + 121 * k') (h8 : tx'.rs.length ≤ k') (h9 : tx'.note.size ≤ 100) (h10 : ∀ s ∈ tx'.rs, s.size ≤ 100) (h11 : ty.rs.length ≤ k') (h12 : k' ≤ 200) (h13 : W ≤ w.heap.size) (h14 : tx'.f ≤ 1 + 6 * k') (h15 : Good k' es' safe' sts') :
    Play3 W D R Z Y w0 k' L' tx' ty sts' w' ∧ Chg (fun i => W ≤ i ∧ ¬ Z i ∧ ¬ Y i) w w' := by
  have z := hc.size
  refine ⟨⟨fun i => (V i ∨ w.heap.size ≤ i) ∧ i < w'.heap.size, U, es', safe', h1.mono (fun i hi hv => ⟨hv, hi⟩), h2.chg hc (fun i hi hu hv => hv.elim (fun hv => (h3 i hv).2.2.1 hu) (fun hv => by omega)), fun i hi => ?_, fun i hi => by have := h4 i hi; exact ⟨this.1, by omega, this.2.2⟩, fun i hi => by have := h5 i hi; exact ⟨this.1, by omega, this.2.2⟩, fun i hi => by have := h5y i hi; omega, h6.trans hc (fun i _ hv => ?_), h7, h8, h9, h10, h11, h12, by omega, h14, h15⟩, hc.mono fun i hi hv => ?_⟩
  · rcases hi.1 with hv | hv
    · have := h3 i hv; exact ⟨this.1, hi.2, this.2.2⟩
    · exact ⟨by omega, hi.2, fun hu => by have := h4 i hu; omega, fun hz => by have := h5 i hz; omega, fun hy => by have := h5y i hy; omega⟩
  · rcases hv with hv | hv
    · exact (h3 i hv).1
    · show W ≤ i; omega
  · rcases hv with hv | hv
    · have := h3 i hv; exact ⟨this.1, this.2.2.2⟩
    · omega
theorem Play3.ofR {V U : Nat → Prop} {es : List Ent} {safe : Nat} {ty' : LSt} (h2 : RefAt (fun i => U i ∨ w.heap.size ≤ i) w' R ty') (hc : Chg (fun i => i = R) w w') (hR : U R)
    (h1 : WAt V w L D es safe tx) (h3 : ∀ i, V i → W ≤ i ∧ i < w.heap.size ∧ ¬ U i ∧ ¬ Z i ∧ ¬ Y i) (h4 : ∀ i, U i → W ≤ i ∧ i < w.heap.size ∧ ¬ Y i) (h5 : ∀ i, Z i → W ≤ i ∧ i < w.heap.size ∧ i ≠ R ∧ ¬ Y i) (h5y : ∀ i, Y i → W ≤ i ∧ i < w.heap.size)
    (h6 : Chg (fun i => W ≤ i) w0 w) (h7 : (eb es).length ≤ 242 + 121 * k) (h8 : tx.rs.length ≤ k) (h9 : tx.note.size ≤ 100) (h10 : ∀ s ∈ tx.rs, s.size ≤ 100) (h11 : ty'.rs.length ≤ k) (h12 : k ≤ 200) (h13 : W ≤ w.heap.size) (h14 : tx.f ≤ 1 + 6 * k) (h15 : Good k es safe sts) :
    Play3 W D R Z Y w0 k L tx ty' sts w' ∧ Chg (fun i => W ≤ i ∧ ¬ Z i ∧ ¬ Y i) w w' := by
  have z := hc.size
  have hr := h4 R hR
  refine ⟨⟨V, fun i => (U i ∨ w.heap.size ≤ i) ∧ i < w'.heap.size, es, safe, h1.chg hc (fun i hi hv e => (h3 i hv).2.2.1 (by rw [e]; exact hR)), h2.mono (fun i hi hu => ⟨hu, hi⟩), fun i hi => ?_, fun i hi => ?_, fun i hi => by have := h5 i hi; exact ⟨this.1, by omega, this.2.2⟩, fun i hi => by have := h5y i hi; omega, h6.trans hc (fun i _ e => by rw [e]; exact hr.1), h7, h8, h9, h10, h11, h12, by omega, h14, h15⟩, hc.mono fun i hi e => ?_⟩
  · have := h3 i hi; exact ⟨this.1, by omega, fun hu => hu.1.elim this.2.2.1 (fun hh => by omega), this.2.2.2⟩
  · rcases hi.1 with hu | hu
    · have := h4 i hu; exact ⟨this.1, hi.2, this.2.2⟩
    · exact ⟨by omega, hi.2, fun hy => by have := h5y i hy; omega⟩
  · subst e
    exact ⟨hr.1, fun hz => (h5 i hz).2.2.1 rfl, hr.2.2⟩
def Did3 (v : Value) (W D R : Nat) (Z Y : Nat → Prop) (w0 : World) (k L : Nat) (tx ty : LSt) (sts : List LSt) (w : World) (e : Ending) (w' : World) : Prop :=
  e = .returned v ∧ Play3 W D R Z Y w0 k L tx ty sts w' ∧ Chg (fun i => W ≤ i ∧ ¬ Z i ∧ ¬ Y i) w w'
theorem Play3.xput (h : Play3 W D R Z Y w0 k L tx ty sts w) {n : Nat} {m : Int} (hm : (n : Int) = m) (g1 : tx.f ≤ n) (g2 : n ≤ tx.f + tx.rs.length) (s : ByteArray) (hs : s.size ≤ 100) (hk : k < 200) :
    Calls Try.prog 11 #[.pointer (some ⟨L, 0, none⟩), .int .i64 m, .string s] w (Did3 (.int .i64 0) W D R Z Y w0 (k + 1) L (putS tx n s) ty (sts ++ [putS tx n s]) w) := by
  obtain ⟨V, U, es, safe, h1, h2, h3, h4, h5, h5y, h6, h7, h8, h9, h10, h11, h12, h13, h14, h15⟩ := h
  have h1' : WAt (fun i => V i ∨ w.heap.size ≤ i) w L D es safe tx := h1.mono fun i _ hv => .inl hv
  refine (WPut h1' (fun i hi => .inr hi) hm g1 g2 (by omega) (by omega) (by omega) (by omega)).mono ?_
  rintro e w' ⟨rfl, g, hc⟩
  have hl := putS_len (t := tx) (n := n) (s := s)
  obtain ⟨a, b⟩ := Play3.ofX (k' := k + 1) g hc h2 h3 h4 h5 h5y h6 (by rw [eb_snoc_length]; show _ + (s.size + 21) ≤ _; omega) (by omega) h9 (putS_sizes h10 hs) (by omega) (by omega) h13 (by show tx.f ≤ _; omega) (h15.snoc g.rdos ⟨by omega, h9, putS_sizes h10 hs, by show tx.f ≤ _; omega⟩)
  exact ⟨rfl, a, b⟩
theorem Play3.xmeta (h : Play3 W D R Z Y w0 k L tx ty sts w) (s : ByteArray) (hs : s.size ≤ 100) (hk : k < 200) :
    Calls Try.prog 24 #[.pointer (some ⟨L, 0, none⟩), .string s] w (Did3 (.int .i64 0) W D R Z Y w0 (k + 1) L (mS tx s) ty (sts ++ [mS tx s]) w) := by
  obtain ⟨V, U, es, safe, h1, h2, h3, h4, h5, h5y, h6, h7, h8, h9, h10, h11, h12, h13, h14, h15⟩ := h
  have h1' : WAt (fun i => V i ∨ w.heap.size ≤ i) w L D es safe tx := h1.mono fun i _ hv => .inl hv
  refine (WMeta h1' (fun i hi => .inr hi) (by omega) (by omega)).mono ?_
  rintro e w' ⟨rfl, g, hc⟩
  obtain ⟨a, b⟩ := Play3.ofX (k' := k + 1) g hc h2 h3 h4 h5 h5y h6 (by rw [eb_snoc_length]; show _ + (s.size + 21) ≤ _; omega) (Nat.le_succ_of_le h8) hs h10 (by omega) (by omega) h13 (by show tx.f ≤ _; omega) (h15.snoc g.rdos ⟨Nat.le_succ_of_le h8, hs, h10, by show tx.f ≤ _; omega⟩)
  exact ⟨rfl, a, b⟩
theorem Play3.xbase (h : Play3 W D R Z Y w0 k L tx ty sts w) {n : Nat} {m : Int} (hm : (n : Int) = m) (g1 : tx.f ≤ n) (g2 : n ≤ tx.f + 6) (s : ByteArray) (hs : s.size ≤ 100) (hk : k < 200) :
    Calls Try.prog 27 #[.pointer (some ⟨L, 0, none⟩), .int .i64 m, .string s] w (Did3 (.int .i64 0) W D R Z Y w0 (k + 1) L (baseS tx n s) ty [baseS tx n s] w) := by
  obtain ⟨V, U, es, safe, h1, h2, h3, h4, h5, h5y, h6, h7, h8, h9, h10, h11, h12, h13, h14, h15⟩ := h
  have hd : (tx.rs.drop (n - tx.f)).length ≤ k := by rw [List.length_drop]; omega
  have hib := imgs_length_le (f := n) (snap := s) (note := tx.note) (a := tx.rs.drop (n - tx.f)) (m := 100) (fun x hx => h10 x (List.mem_of_mem_drop hx))
  have hmul : (tx.rs.drop (n - tx.f)).length * (100 + 21) ≤ k * 121 := Nat.mul_le_mul_right 121 hd
  have h1' : WAt (fun i => V i ∨ w.heap.size ≤ i) w L D es safe tx := h1.mono fun i _ hv => .inl hv
  refine (WBase h1' (fun i hi => .inr hi) hm g1 (by omega) (by omega) (by omega)).mono ?_
  rintro e w' ⟨rfl, g, hc⟩
  obtain ⟨a, b⟩ := Play3.ofX (k' := k + 1) g hc h2 h3 h4 h5 h5y h6 (by omega) (by show (tx.rs.drop (n - tx.f)).length ≤ _; omega) h9 (fun x hx => h10 x (List.mem_of_mem_drop hx)) (by omega) (by omega) h13 (by show n ≤ _; omega) (Good.all g.rdos ⟨by show (tx.rs.drop (n - tx.f)).length ≤ _; omega, h9, fun x hx => h10 x (List.mem_of_mem_drop hx), by show n ≤ _; omega⟩)
  exact ⟨rfl, a, b⟩
theorem Play3.xsync (h : Play3 W D R Z Y w0 k L tx ty sts w) :
    Calls Try.prog 13 #[.pointer (some ⟨L, 0, none⟩)] w (Did3 (.tuple #[]) W D R Z Y w0 k L tx ty [tx] w) := by
  obtain ⟨V, U, es, safe, h1, h2, h3, h4, h5, h5y, h6, h7, h8, h9, h10, h11, h12, h13, h14, h15⟩ := h
  have h1' : WAt (fun i => V i ∨ w.heap.size ≤ i) w L D es safe tx := h1.mono fun i _ hv => .inl hv
  refine (WSync h1').mono ?_
  rintro e w' ⟨rfl, g, hc⟩
  obtain ⟨a, b⟩ := Play3.ofX g hc h2 h3 h4 h5 h5y h6 h7 h8 h9 h10 h11 h12 h13 h14 (Good.all g.rdos ⟨h8, h9, h10, h14⟩)
  exact ⟨rfl, a, b⟩
theorem Play3.dsync (h : Play3 W D R Z Y w0 k L tx ty sts w) :
    Calls Try.prog 35 #[.pointer (some ⟨D, 0, none⟩)] w (Did3 (.tuple #[]) W D R Z Y w0 k L tx ty [tx] w) := by
  obtain ⟨V, U, es, safe, h1, h2, h3, h4, h5, h5y, h6, h7, h8, h9, h10, h11, h12, h13, h14, h15⟩ := h
  have h1' : WAt (fun i => V i ∨ w.heap.size ≤ i) w L D es safe tx := h1.mono fun i _ hv => .inl hv
  refine (DSync h1').mono ?_
  rintro e w' ⟨rfl, g, hc⟩
  obtain ⟨a, b⟩ := Play3.ofX g hc h2 h3 h4 h5 h5y h6 h7 h8 h9 h10 h11 h12 h13 h14 (Good.all g.rdos ⟨h8, h9, h10, h14⟩)
  exact ⟨rfl, a, b⟩
theorem Play3.rput (h : Play3 W D R Z Y w0 k L tx ty sts w) {n : Nat} {m : Int} (hm : (n : Int) = m) (g1 : ty.f ≤ n) (g2 : n ≤ ty.f + ty.rs.length) (g3 : n < 1073741824) (s : ByteArray) (hs : s.size ≤ 100) (hl : (putS ty n s).rs.length ≤ k) :
    Calls Try.prog 31 #[.pointer (some ⟨R, 0, none⟩), .int .i64 m, .string s] w (Did3 (.int .i64 0) W D R Z Y w0 k L tx (putS ty n s) sts w) := by
  obtain ⟨V, U, es, safe, h1, h2, h3, h4, h5, h5y, h6, h7, h8, h9, h10, h11, h12, h13, h14, h15⟩ := h
  have h2' : RefAt (fun i => U i ∨ w.heap.size ≤ i) w R ty := h2.mono fun i _ hv => .inl hv
  refine (RPut_calls h2' (fun i hi => .inr hi) hm g1 g2 g3 (by omega) (by omega)).mono ?_
  rintro e w' ⟨rfl, g, hc⟩
  obtain ⟨a, b⟩ := Play3.ofR g hc h2.1 h1 h3 h4 h5 h5y h6 h7 h8 h9 h10 hl h12 h13 h14 h15
  exact ⟨rfl, a, b⟩
theorem Play3.rmeta (h : Play3 W D R Z Y w0 k L tx ty sts w) (s : ByteArray) (hs : s.size ≤ 100) :
    Calls Try.prog 32 #[.pointer (some ⟨R, 0, none⟩), .string s] w (Did3 (.int .i64 0) W D R Z Y w0 k L tx (mS ty s) sts w) := by
  obtain ⟨V, U, es, safe, h1, h2, h3, h4, h5, h5y, h6, h7, h8, h9, h10, h11, h12, h13, h14, h15⟩ := h
  have h2' : RefAt (fun i => U i ∨ w.heap.size ≤ i) w R ty := h2.mono fun i _ hv => .inl hv
  refine (RMeta_calls h2' s (by omega)).mono ?_
  rintro e w' ⟨rfl, g, hc⟩
  obtain ⟨a, b⟩ := Play3.ofR (ty' := mS ty s) g hc h2.1 h1 h3 h4 h5 h5y h6 h7 h8 h9 h10 h11 h12 h13 h14 h15
  exact ⟨rfl, a, b⟩
theorem Play3.rbase (h : Play3 W D R Z Y w0 k L tx ty sts w) {n : Nat} {m : Int} (hm : (n : Int) = m) (g1 : ty.f ≤ n) (g2 : n ≤ 1073741824) (s : ByteArray) (hs : s.size ≤ 100) :
    Calls Try.prog 33 #[.pointer (some ⟨R, 0, none⟩), .int .i64 m, .string s] w (Did3 (.int .i64 0) W D R Z Y w0 k L tx (baseS ty n s) sts w) := by
  obtain ⟨V, U, es, safe, h1, h2, h3, h4, h5, h5y, h6, h7, h8, h9, h10, h11, h12, h13, h14, h15⟩ := h
  have h2' : RefAt (fun i => U i ∨ w.heap.size ≤ i) w R ty := h2.mono fun i _ hv => .inl hv
  refine (RBase_calls h2' (fun i hi => .inr hi) hm g1 g2 (by omega)).mono ?_
  rintro e w' ⟨rfl, g, hc⟩
  obtain ⟨a, b⟩ := Play3.ofR (ty' := baseS ty n s) g hc h2.1 h1 h3 h4 h5 h5y h6 h7 h8 h9 h10 (by show (ty.rs.drop (n - ty.f)).length ≤ _; rw [List.length_drop]; omega) h12 h13 h14 h15
  exact ⟨rfl, a, b⟩
theorem Play3.alike (h : Play3 W D R Z Y w0 k L tx ty sts w) : Calls Try.prog 34 #[.pointer (some ⟨L, 0, none⟩), .pointer (some ⟨R, 0, none⟩)] w (AlikeOut tx ty w) := by
  obtain ⟨V, U, es, safe, h1, h2, -⟩ := h
  exact alike_calls h1 h2
theorem Play3.alikeTo (h : Play3 W D R Z Y w0 k L tx ty sts w) {U' : Nat → Prop} {P : Nat} {t : LSt} (g : RefAt U' w P t) : Calls Try.prog 34 #[.pointer (some ⟨L, 0, none⟩), .pointer (some ⟨P, 0, none⟩)] w (AlikeOut tx t w) := by
  obtain ⟨V, U, es, safe, h1, h2, -⟩ := h
  exact alike_calls h1 g
theorem Play3.first (h : Play3 W D R Z Y w0 k L tx ty sts w) : Calls Try.prog 21 #[.pointer (some ⟨L, 0, none⟩)] w fun e w' => e = .returned (.int .i64 (tx.f : Int)) ∧ w = w' := by
  obtain ⟨V, U, es, safe, h1, -⟩ := h
  exact WFirst h1
theorem Play3.next (h : Play3 W D R Z Y w0 k L tx ty sts w) : Calls Try.prog 15 #[.pointer (some ⟨L, 0, none⟩)] w (Told (.int .i64 ((tx.f + tx.rs.length : Nat) : Int)) w) := by
  obtain ⟨V, U, es, safe, h1, -⟩ := h
  exact WNext h1
/-- behind a crash: a disk, no log -/
def Mid3 (W D R : Nat) (Z Y : Nat → Prop) (w0 : World) (k : Nat) (ty : LSt) (sts : List LSt) (w : World) : Prop :=
  ∃ (tx : LSt) (K : Nat) (V U : Nat → Prop) (es : List Ent) (i : Nat), DAt V w D ((eb es).take K) K ∧ RefAt U w R ty ∧ (∀ i, V i → W ≤ i ∧ i < w.heap.size ∧ ¬ U i ∧ ¬ Z i ∧ ¬ Y i) ∧ (∀ i, U i → W ≤ i ∧ i < w.heap.size ∧ ¬ Y i) ∧ (∀ i, Z i → W ≤ i ∧ i < w.heap.size ∧ i ≠ R ∧ ¬ Y i) ∧ (∀ i, Y i → W ≤ i ∧ i < w.heap.size) ∧
    Chg (fun i => W ≤ i) w0 w ∧ (eb es).length ≤ 242 + 121 * k ∧ ty.rs.length ≤ k ∧ k ≤ 200 ∧ W ≤ w.heap.size ∧ (∀ e ∈ es, e.size ≤ 65536) ∧ rdos init21 es = some tx ∧ i ≤ es.length ∧ (eb (es.take i)).length ≤ K ∧ K ≤ (eb es).length ∧ (∀ m, i ≤ m → m ≤ es.length → ∃ t, t ∈ sts ∧ rdos init21 (es.take m) = some t) ∧ ∀ t, t ∈ sts → TOK k t
theorem Play3.xcrash (h : Play3 W D R Z Y w0 k L tx ty sts w) (keep : Int) :
    Calls Try.prog 26 #[.pointer (some ⟨D, 0, none⟩), .int .i64 keep] w (fun e w' => e = .returned (.tuple #[]) ∧ Mid3 W D R Z Y w0 k ty sts w' ∧ Chg (fun i => W ≤ i ∧ ¬ Z i ∧ ¬ Y i) w w') := by
  obtain ⟨V, U, es, safe, h1, h2, h3, h4, h5, h5y, h6, h7, h8, h9, h10, h11, h12, h13, h14, ⟨⟨i, g1, g2, g3⟩, g4⟩⟩ := h
  have hsz := h1.sizes
  have hrd := h1.rdos
  have hle := h1.safeLe
  refine (WCrash h1 keep).mono ?_
  rintro e w' ⟨rfl, g, hc⟩
  have z := hc.size
  have hk := kept_le (keep := keep) hle.1
  refine ⟨rfl, ⟨tx, _, V, U, es, i, g, h2.chg hc (fun i _ hu hv => (h3 i hv).2.2.1 hu), fun i hi => by have := h3 i hi; exact ⟨this.1, by omega, this.2.2⟩, fun i hi => by have := h4 i hi; exact ⟨this.1, by omega, this.2.2⟩, fun i hi => by have := h5 i hi; exact ⟨this.1, by omega, this.2.2⟩, fun i hi => by have := h5y i hi; omega, h6.trans hc (fun i _ hv => (h3 i hv).1), h7, h11, h12, by omega, hsz, hrd, g1, by rw [← g2]; exact hk.1, hk.2, g3, g4⟩, hc.mono fun i _ hv => ⟨(h3 i hv).1, (h3 i hv).2.2.2⟩⟩
/-- opened behind a crash: what was held at some time -/
def Opened3 (W D R : Nat) (Z Y : Nat → Prop) (w0 : World) (k : Nat) (ty : LSt) (sts : List LSt) (w : World) (e : Ending) (w' : World) : Prop :=
  ∃ (L : Nat) (t : LSt), t ∈ sts ∧ TOK k t ∧ e = .returned (.tuple #[.pointer (some ⟨L, 0, none⟩), .int .i64 0]) ∧ Play3 W D R Z Y w0 k L t ty [t] w' ∧ Chg (fun i => W ≤ i ∧ ¬ Z i ∧ ¬ Y i) w w'
theorem Mid3.xopen (h : Mid3 W D R Z Y w0 k ty sts w) :
    Calls Try.prog 20 #[.pointer (some ⟨D, 0, none⟩)] w (Opened3 W D R Z Y w0 k ty sts w) := by
  obtain ⟨tx, K, V, U, es, i, h1, h2, h3, h4, h5, h5y, h6, h7, h11, h12, h13, hsz, hrd, g1, g2, g3, g4, g5⟩ := h
  have h1' : DAt (fun i => V i ∨ w.heap.size ≤ i) w D ((eb es).take K) K := h1.mono fun i _ hv => .inl hv
  obtain ⟨j, t2, hj1, hj2, hj3, hj4, HO⟩ := WCrashed h1' (fun i hi => .inr hi) hsz hrd g1 g2 g3
  obtain ⟨t', q1, q2⟩ := g4 j hj1 hj2
  rw [hj4] at q2
  injection q2 with q2
  subst q2
  have hT := g5 _ q1
  refine HO.mono ?_
  rintro e w' ⟨L2, rfl, g, _, hc⟩
  obtain ⟨a, b⟩ := Play3.ofX g hc h2 h3 h4 h5 h5y h6 (by omega) hT.1 hT.2.1 hT.2.2.1 h11 h12 h13 hT.2.2.2 (Good.all g.rdos hT)
  exact ⟨L2, t2, q1, hT, rfl, a, b⟩
/-- the logs of the times before, in a slice of their own -/
def StatesAt (Z Y : Nat → Prop) (sts : List LSt) (A : Option Addr) (n c : Nat) (w : World) : Prop :=
  ∃ (own : Option Nat) (ps : List Nat), Own w 51 own A n c (ps.map fun p => Value.pointer (some ⟨p, 0, none⟩)) ∧ (∀ g, own = some g → Y g) ∧ ps.length = sts.length ∧ ∀ (j p : Nat) (t : LSt), ps[j]? = some p → sts[j]? = some t → RefAt Z w p t
theorem StatesAt.chg {A : Option Addr} {n c : Nat} (h : StatesAt Z Y sts A n c w) (hc : Chg (fun i => W ≤ i ∧ ¬ Z i ∧ ¬ Y i) w w') : StatesAt Z Y sts A n c w' := by
  obtain ⟨own, ps, h1, h2, h3, h4⟩ := h
  exact ⟨own, ps, h1.chg hc (fun g hg hh => hh.2.2 (h2 g hg)), h2, h3, fun j p t hp ht => (h4 j p t hp ht).chg hc (fun i _ hz hh => hh.2.1 hz)⟩
theorem StatesAt.keep {A : Option Addr} {n c : Nat} (h : StatesAt Z Y sts A n c w) (hc : Chg (fun _ => False) w w') : StatesAt Z Y sts A n c w' :=
  h.chg (W := 0) (hc.mono fun _ _ h => h.elim)
theorem StatesAt.nil_ (Z Y : Nat → Prop) (w : World) : StatesAt Z Y [] none 0 0 w := ⟨none, [], Own.nil_ _ _ _, (fun g hg => by cases hg), rfl, fun j p t hp => by simp at hp⟩
theorem StatesAt.mono {Z' Y' : Nat → Prop} {A : Option Addr} {n c : Nat} (h : StatesAt Z Y sts A n c w) (hz : ∀ i, Z i → Z' i) (hy : ∀ i, Y i → Y' i) : StatesAt Z' Y' sts A n c w := by
  obtain ⟨own, ps, h1, h2, h3, h4⟩ := h
  exact ⟨own, ps, h1, fun g hg => hy g (h2 g hg), h3, fun j p t hp ht => (h4 j p t hp ht).mono fun i _ => hz i⟩
theorem StatesAt.len {A : Option Addr} {n c : Nat} (h : StatesAt Z Y sts A n c w) : sts.length = n := by
  obtain ⟨own, ps, h1, h2, h3, h4⟩ := h
  have := h1.len
  rw [List.length_map] at this
  omega
theorem StatesAt.at_ {A : Option Addr} {n c : Nat} (h : StatesAt Z Y sts A n c w) {j : Nat} {t : LSt} (ht : sts[j]? = some t) : ∃ (g p : Nat), A = some ⟨g, 0, none⟩ ∧ w.cell? ⟨g, j, none⟩ = some (.pointer (some ⟨p, 0, none⟩)) ∧ RefAt Z w p t := by
  obtain ⟨own, ps, h1, h2, h3, h4⟩ := h
  have hj : j < ps.length := by rw [h3]; exact (List.getElem?_eq_some_iff.1 ht).1
  obtain ⟨g, _, hA, hc, _⟩ := h1.cells (j := j) (u := .pointer (some ⟨ps[j], 0, none⟩)) (by simp [hj])
  exact ⟨g, ps[j], hA, hc, h4 j _ t (List.getElem?_eq_getElem hj) ht⟩
end
end Go.Proofs.Ytlnjadnddldjeaa
