/-
  A log over a disk whose bytes are a row of records: contracts of all calls, of law 21's fresh; what a crash leaves.
-/
import Derived.Test.YtlnjadnddldjeaaLog12
namespace Go.Proofs.Ytlnjadnddldjeaa
open Go.RowKit
set_option linter.unusedVariables false
set_option linter.unusedSimpArgs false

/-- a disk with its blocks in V -/
def DAt (V : Nat → Prop) (w : World) (D : Nat) (bs : List UInt8) (safe : Nat) : Prop := V D ∧ ∃ dOwn, (∀ g, dOwn = some g → V g) ∧ DiskAt w D dOwn bs safe
/-- a log over a disk that has the records es and by them holds t; its blocks lie in V -/
def WAt (V : Nat → Prop) (w : World) (L D : Nat) (es : List Ent) (safe : Nat) (t : LSt) : Prop :=
  V L ∧ V D ∧ ∃ own dOwn, (∀ g, own = some g → V g) ∧ (∀ g, dOwn = some g → V g) ∧ LogAt w L D own t.f t.rs t.snap t.note ∧ DiskAt w D dOwn (eb es) safe ∧ rdos init21 es = some t ∧ ∀ e ∈ es, e.size ≤ 65536

theorem DAt.chg {V T : Nat → Prop} {w w' : World} {D : Nat} {bs : List UInt8} {safe : Nat} (h : DAt V w D bs safe) (hc : Chg T w w') (hd : ∀ k, k < w.heap.size → V k → ¬ T k) : DAt V w' D bs safe := by
  obtain ⟨h1, o, h2, h3⟩ := h
  exact ⟨h1, o, h2, h3.chg hc (hd D h3.lt h1) fun k hk => hd k (h3.ownLt k hk) (h2 k hk)⟩
theorem LogAt.ownLt {w : World} {L D f : Nat} {own : Option Nat} {rs : List ByteArray} {snap note : ByteArray} (h : LogAt w L D own f rs snap note) : ∀ g, own = some g → g < w.heap.size := by
  obtain ⟨h1, h2, A, cap, hh, hO⟩ := h
  exact fun g hg => hO.lt hg
theorem WAt.chg {V T : Nat → Prop} {w w' : World} {L D : Nat} {es : List Ent} {safe : Nat} {t : LSt} (h : WAt V w L D es safe t) (hc : Chg T w w') (hd : ∀ k, k < w.heap.size → V k → ¬ T k) : WAt V w' L D es safe t := by
  obtain ⟨h1, h2, o, o', h3, h4, h5, h6, h7⟩ := h
  exact ⟨h1, h2, o, o', h3, h4, h5.chg hc (hd L h5.lt h1) (fun k hk => hd k (h5.ownLt k hk) (h3 k hk)), h6.chg hc (hd D h6.lt h2) (fun k hk => hd k (h6.ownLt k hk) (h4 k hk)), h7⟩
theorem WAt.keep {V : Nat → Prop} {w w' : World} {L D : Nat} {es : List Ent} {safe : Nat} {t : LSt} (h : WAt V w L D es safe t) (hc : Chg (fun _ => False) w w') : WAt V w' L D es safe t := h.chg hc (fun _ _ _ h => h)
theorem WAt.mono {V V' : Nat → Prop} {w : World} {L D : Nat} {es : List Ent} {safe : Nat} {t : LSt} (h : WAt V w L D es safe t) (hv : ∀ k, k < w.heap.size → V k → V' k) : WAt V' w L D es safe t := by
  obtain ⟨h1, h2, o, o', h3, h4, h5, h6, h7⟩ := h
  exact ⟨hv L h5.lt h1, hv D h6.lt h2, o, o', fun g hg => hv g (h5.ownLt g hg) (h3 g hg), fun g hg => hv g (h6.ownLt g hg) (h4 g hg), h5, h6, h7⟩
theorem DAt.mono {V V' : Nat → Prop} {w : World} {D : Nat} {bs : List UInt8} {safe : Nat} (h : DAt V w D bs safe) (hv : ∀ k, k < w.heap.size → V k → V' k) : DAt V' w D bs safe := by
  obtain ⟨h1, o, h2, h3⟩ := h
  exact ⟨hv D h3.lt h1, o, fun g hg => hv g (h3.ownLt g hg) (h2 g hg), h3⟩
theorem WAt.disk {V : Nat → Prop} {w : World} {L D : Nat} {es : List Ent} {safe : Nat} {t : LSt} (h : WAt V w L D es safe t) : DAt V w D (eb es) safe := by
  obtain ⟨h1, h2, o, o', h3, h4, h5, h6, h7⟩ := h
  exact ⟨h2, o', h4, h6⟩
theorem WAt.rdos {V : Nat → Prop} {w : World} {L D : Nat} {es : List Ent} {safe : Nat} {t : LSt} (h : WAt V w L D es safe t) : rdos init21 es = some t := by
  obtain ⟨h1, h2, o, o', h3, h4, h5, h6, h7, h8⟩ := h
  exact h7
theorem WAt.sizes {V : Nat → Prop} {w : World} {L D : Nat} {es : List Ent} {safe : Nat} {t : LSt} (h : WAt V w L D es safe t) : ∀ e ∈ es, e.size ≤ 65536 := by
  obtain ⟨h1, h2, o, o', h3, h4, h5, h6, h7, h8⟩ := h
  exact h8
theorem WAt.safeLe {V : Nat → Prop} {w : World} {L D : Nat} {es : List Ent} {safe : Nat} {t : LSt} (h : WAt V w L D es safe t) : safe ≤ (eb es).length ∧ (eb es).length ≤ 4194304 := by
  obtain ⟨h1, h2, o, o', h3, h4, h5, ⟨h6, h6b, h6c⟩, h7, h8⟩ := h
  exact ⟨h6, h6b⟩

def putS (t : LSt) (n : Nat) (s : ByteArray) : LSt := { t with rs := t.rs.take (n - t.f) ++ [s] }
def baseS (t : LSt) (n : Nat) (s : ByteArray) : LSt := ⟨n, t.rs.drop (n - t.f), s, t.note⟩
/-- a call that gave v and left the log so -/
def Did (v : Value) (V : Nat → Prop) (w : World) (L D : Nat) (es : List Ent) (safe : Nat) (t : LSt) (e : Ending) (w' : World) : Prop :=
  e = .returned v ∧ WAt V w' L D es safe t ∧ Chg V w w'
/-- a call that gave v and drew -/
def Told (v : Value) (w : World) (e : Ending) (w' : World) : Prop := e = .returned v ∧ ∃ q, w' = w.drewN q

section
variable {V : Nat → Prop} {w : World} {L D : Nat} {es : List Ent} {safe : Nat} {t : LSt}
theorem snocSizes {a : List Ent} {e : Ent} (h : ∀ e ∈ a, e.size ≤ 65536) (h2 : e.size ≤ 65536) : ∀ x ∈ a ++ [e], x.size ≤ 65536 := by
  intro x hx
  rcases List.mem_append.1 hx with hx | hx
  · exact h x hx
  · rw [List.mem_singleton.1 hx]; exact h2
theorem WPut (h : WAt V w L D es safe t) (hV : ∀ k, w.heap.size ≤ k → V k) {n : Nat} {s : ByteArray} {m : Int} (hm : (n : Int) = m) (hf : t.f ≤ n) (hn : n ≤ t.f + t.rs.length) (h30 : n < 1073741824) (hs : s.size ≤ 65536) (hk : t.rs.length < 1000000) (hroom : (eb es).length + (s.size + 21) ≤ 4194304) :
    Calls Try.prog 11 #[.pointer (some ⟨L, 0, none⟩), .int .i64 m, .string s] w (Did (.int .i64 0) V w L D (es ++ [.put n s]) safe (putS t n s)) := by
  subst hm
  obtain ⟨h1, h2, o, o', h3, h4, h5, h6, h7, h8⟩ := h
  obtain ⟨k, rfl⟩ : ∃ k, n = t.f + k := ⟨n - t.f, by omega⟩
  refine (Put_ok (k := k) h5 h6 (by omega) (by omega) (by omega) hs hroom).mono ?_
  rintro e w' ⟨own', dOwn', rfl, hd, hl, ho, hdo, hc⟩
  have e1 : t.f + k - t.f = k := by omega
  refine ⟨rfl, ⟨h1, h2, own', dOwn', ?_, ?_, by rw [putS, e1]; exact hl, by rw [eb_append, eb_one]; exact hd, rdos_snoc h7 (by rw [rdo, if_pos ⟨hf, hn⟩]; rfl), snocSizes h8 hs⟩, ?_⟩
  · intro g hg
    rcases ho with ho | ho
    · exact h3 g (by rw [← ho, hg])
    · exact hV g (ho g hg)
  · intro g hg
    rcases hdo with ho | ho
    · exact h4 g (by rw [← ho, hg])
    · exact hV g (ho g hg)
  · exact hc.mono fun i _ hi => by
      rcases hi with rfl | rfl | hi | hi
      · exact h2
      · exact h1
      · exact h4 i hi
      · exact h3 i hi
theorem WMeta (h : WAt V w L D es safe t) (hV : ∀ k, w.heap.size ≤ k → V k) {s : ByteArray} (hs : s.size ≤ 65536) (hroom : (eb es).length + (s.size + 21) ≤ 4194304) :
    Calls Try.prog 24 #[.pointer (some ⟨L, 0, none⟩), .string s] w (Did (.int .i64 0) V w L D (es ++ [.note s]) safe { t with note := s }) := by
  obtain ⟨h1, h2, o, o', h3, h4, h5, h6, h7, h8⟩ := h
  refine (Meta_ok h5 h6 hs hroom).mono ?_
  rintro e w' ⟨own', dOwn', rfl, hd, hl, ho, hdo, hc⟩
  refine ⟨rfl, ⟨h1, h2, own', dOwn', ?_, ?_, hl, by rw [eb_append, eb_one]; exact hd, rdos_snoc h7 rfl, snocSizes h8 hs⟩, ?_⟩
  · intro g hg
    rcases ho with ho | ho
    · exact h3 g (by rw [← ho, hg])
    · exact hV g (ho g hg)
  · intro g hg
    rcases hdo with ho | ho
    · exact h4 g (by rw [← ho, hg])
    · exact hV g (ho g hg)
  · exact hc.mono fun i _ hi => by
      rcases hi with rfl | rfl | hi | hi
      · exact h2
      · exact h1
      · exact h4 i hi
      · exact h3 i hi
theorem WSync (h : WAt V w L D es safe t) :
    Calls Try.prog 13 #[.pointer (some ⟨L, 0, none⟩)] w (Did (.tuple #[]) V w L D es (eb es).length t) := by
  obtain ⟨h1, h2, o, o', h3, h4, h5, h6, h7⟩ := h
  obtain ⟨p1, p2, p3⟩ := log_apart h5 h6
  refine (LSync_calls h5 h6).mono ?_
  rintro e w' ⟨rfl, hd, hc⟩
  exact ⟨rfl, ⟨h1, h2, o, o', h3, h4, h5.chg hc (fun e => p1 e) (fun k hk e => (p3 k hk).2.1 e), hd, h7⟩, hc.mono fun i _ hi => by rw [hi]; exact h2⟩
theorem DSync (h : WAt V w L D es safe t) :
    Calls Try.prog 35 #[.pointer (some ⟨D, 0, none⟩)] w (Did (.tuple #[]) V w L D es (eb es).length t) := by
  obtain ⟨h1, h2, o, o', h3, h4, h5, h6, h7⟩ := h
  obtain ⟨p1, p2, p3⟩ := log_apart h5 h6
  refine (Sync_calls h6).mono ?_
  rintro e w' ⟨rfl, hd, hc⟩
  exact ⟨rfl, ⟨h1, h2, o, o', h3, h4, h5.chg hc (fun e => p1 e) (fun k hk e => (p3 k hk).2.1 e), hd, h7⟩, hc.mono fun i _ hi => by rw [hi]; exact h2⟩
theorem rdos_fit : ∀ {a : List Ent} {t t1 : LSt}, rdos t a = some t1 → t.f ≤ 1073741824 → 1 ≤ t.f → (t.snap.size ≤ 65536 ∧ t.note.size ≤ 65536 ∧ ∀ s ∈ t.rs, s.size ≤ 65536) → (∀ e ∈ a, e.size ≤ 65536) →
    1 ≤ t1.f ∧ t1.f ≤ 1073741824 ∧ t1.snap.size ≤ 65536 ∧ t1.note.size ≤ 65536 ∧ ∀ s ∈ t1.rs, s.size ≤ 65536
  | [], t, t1, h, hf, h1, hs, _ => by injection h with h; subst h; exact ⟨h1, hf, hs⟩
  | e :: a, t, t1, h, hf, h1, hs, ha => by
    simp only [Go.Proofs.Ytlnjadnddldjeaa.rdos] at h
    cases hh : rdo t e with
    | none => rw [hh] at h; cases h
    | some t' =>
      rw [hh] at h
      have hf' := rdo_f hh hf
      refine rdos_fit h hf'.2 (by omega) ?_ (fun x hx => ha x (List.mem_cons_of_mem _ hx))
      have he := ha e (List.mem_cons_self ..)
      cases e with
      | put n s =>
        simp only [rdo] at hh
        split at hh
        · injection hh with hh; subst hh
          refine ⟨hs.1, hs.2.1, fun x hx => ?_⟩
          rcases List.mem_append.1 hx with hx | hx
          · exact hs.2.2 x (List.mem_of_mem_take hx)
          · rw [List.mem_singleton.1 hx]; exact he
        · cases hh
      | note s => simp only [rdo] at hh; injection hh with hh; subst hh; exact ⟨hs.1, he, hs.2.2⟩
      | base n s =>
        simp only [rdo] at hh
        split at hh
        · injection hh with hh; subst hh; exact ⟨he, hs.2.1, fun x hx => by cases hx⟩
        · cases hh
theorem init_fit {a : List Ent} {t1 : LSt} (h : rdos init21 a = some t1) (ha : ∀ e ∈ a, e.size ≤ 65536) : 1 ≤ t1.f ∧ t1.f ≤ 1073741824 ∧ t1.snap.size ≤ 65536 ∧ t1.note.size ≤ 65536 ∧ ∀ s ∈ t1.rs, s.size ≤ 65536 :=
  rdos_fit h (by decide) (by decide) ⟨by decide, by decide, fun s hs => by cases hs⟩ ha
theorem puts_sizes {f : Nat} {a : List ByteArray} (h : ∀ s ∈ a, s.size ≤ 65536) : ∀ e ∈ puts f a, e.size ≤ 65536 := by
  induction a generalizing f with
  | nil => intro e he; cases he
  | cons s a ih =>
    intro e he
    rcases List.mem_cons.1 he with rfl | he
    · exact h s (List.mem_cons_self ..)
    · exact ih (fun x hx => h x (List.mem_cons_of_mem _ hx)) e he
theorem WBase (h : WAt V w L D es safe t) (hV : ∀ k, w.heap.size ≤ k → V k) {n : Nat} {s : ByteArray} {m : Int} (hm : (n : Int) = m) (hf : t.f ≤ n) (h30 : n ≤ 1073741824) (hs : s.size ≤ 65536) (hroom : (eb (imgs n s t.note (t.rs.drop (n - t.f)))).length ≤ 4194304) :
    Calls Try.prog 27 #[.pointer (some ⟨L, 0, none⟩), .int .i64 m, .string s] w (Did (.int .i64 0) V w L D (imgs n s t.note (t.rs.drop (n - t.f))) (eb (imgs n s t.note (t.rs.drop (n - t.f)))).length (baseS t n s)) := by
  subst hm
  obtain ⟨h1, h2, o, o', h3, h4, h5, h6, h7, h8⟩ := h
  obtain ⟨q1, q2, q3, q4, q5⟩ := init_fit h7 h8
  refine (Base_ok h5 h6 hf h30 hs hroom).mono ?_
  rintro e w' ⟨own', dOwn', rfl, hd, hl, ho, hdo, hc⟩
  refine ⟨rfl, ⟨h1, h2, own', dOwn', fun g hg => hV g (ho g hg), fun g hg => hV g (hdo g hg), hl, hd, rdos_imgs _ _ _ _ (by omega) h30, ?_⟩, ?_⟩
  · intro e he
    rcases List.mem_cons.1 he with rfl | he
    · exact hs
    · rcases List.mem_cons.1 he with rfl | he
      · exact q4
      · exact puts_sizes (fun x hx => q5 x (List.mem_of_mem_drop hx)) e he
  · exact hc.mono fun i _ hi => by
      rcases hi with rfl | rfl
      · exact h2
      · exact h1
theorem WNext (h : WAt V w L D es safe t) : Calls Try.prog 15 #[.pointer (some ⟨L, 0, none⟩)] w (Told (.int .i64 ((t.f + t.rs.length : Nat) : Int)) w) := by
  obtain ⟨h1, h2, o, o', h3, h4, h5, h6, h7⟩ := h
  exact Next_calls h5
theorem WFirst (h : WAt V w L D es safe t) : Calls Try.prog 21 #[.pointer (some ⟨L, 0, none⟩)] w fun e w' => e = .returned (.int .i64 (t.f : Int)) ∧ w = w' := by
  obtain ⟨h1, h2, o, o', h3, h4, h5, h6, h7⟩ := h
  exact First_calls h5
theorem WNote (h : WAt V w L D es safe t) : Calls Try.prog 25 #[.pointer (some ⟨L, 0, none⟩)] w fun e w' => e = .returned (.string t.note) ∧ w = w' := by
  obtain ⟨h1, h2, o, o', h3, h4, h5, h6, h7⟩ := h
  exact Note_calls h5
theorem WSnap (h : WAt V w L D es safe t) : Calls Try.prog 28 #[.pointer (some ⟨L, 0, none⟩)] w (Told (.tuple #[.int .i64 (t.f : Int), .string t.snap]) w) := by
  obtain ⟨h1, h2, o, o', h3, h4, h5, h6, h7⟩ := h
  exact Snap_calls h5
theorem WGet_in (h : WAt V w L D es safe t) {m : Int} {k : Nat} {s : ByteArray} (hm : ((t.f + k : Nat) : Int) = m) (hs : t.rs[k]? = some s) : Calls Try.prog 22 #[.pointer (some ⟨L, 0, none⟩), .int .i64 m] w (Told (.tuple #[.string s, .bool true]) w) := by
  subst hm
  obtain ⟨h1, h2, o, o', h3, h4, h5, h6, h7⟩ := h
  exact LGet_in h5 hs
theorem WGet_out (h : WAt V w L D es safe t) {m : Int} (hm : m < (t.f : Int) ∨ ((t.f + t.rs.length : Nat) : Int) ≤ m) : Calls Try.prog 22 #[.pointer (some ⟨L, 0, none⟩), .int .i64 m] w (Told (.tuple #[.string ⟨#[]⟩, .bool false]) w) := by
  obtain ⟨h1, h2, o, o', h3, h4, h5, h6, h7⟩ := h
  exact LGet_out h5 hm
theorem WSafe (h : WAt V w L D es safe t) : Calls Try.prog 14 #[.pointer (some ⟨D, 0, none⟩)] w fun e w' => e = .returned (.int .i64 (safe : Int)) ∧ w' = w := by
  obtain ⟨h1, h2, o, o', h3, h4, h5, h6, h7⟩ := h
  exact Safe_calls h6
theorem WBytes (h : WAt V w L D es safe t) : Calls Try.prog 16 #[.pointer (some ⟨D, 0, none⟩)] w (Cloned w (eb es).length (eb es)) := by
  obtain ⟨h1, h2, o, o', h3, h4, h5, h6, h7⟩ := h
  exact Bytes_calls h6
/-- a disk that crashed -/
def CrashedW (V : Nat → Prop) (w : World) (D : Nat) (bs : List UInt8) (K : Nat) (e : Ending) (w' : World) : Prop := e = .returned (.tuple #[]) ∧ DAt V w' D (bs.take K) K ∧ Chg V w w'
theorem WCrash (h : WAt V w L D es safe t) (keep : Int) : Calls Try.prog 26 #[.pointer (some ⟨D, 0, none⟩), .int .i64 keep] w (CrashedW V w D (eb es) (kept (eb es).length safe keep)) := by
  obtain ⟨h1, h2, o, o', h3, h4, h5, h6, h7⟩ := h
  refine (Crash_calls keep h6).mono ?_
  rintro e w' ⟨rfl, hd, hc⟩
  exact ⟨rfl, ⟨h2, o', h4, hd⟩, hc.mono fun i _ hi => by rw [hi]; exact h2⟩
/-- a log that was opened -/
def OpenedW (V : Nat → Prop) (w : World) (D : Nat) (es : List Ent) (safe : Nat) (t : LSt) (e : Ending) (w' : World) : Prop :=
  ∃ L, e = .returned (.tuple #[.pointer (some ⟨L, 0, none⟩), .int .i64 0]) ∧ WAt V w' L D es safe t ∧ w.heap.size ≤ L ∧ Chg V w w'
theorem WOpen {bs rest : List UInt8} (h : DAt V w D bs safe) (hV : ∀ k, w.heap.size ≤ k → V k) (hsc : Scanned bs (bases es) rest) (hes : ∀ e ∈ es, e.size ≤ 65536) (hr : rdos init21 es = some t) :
    Calls Try.prog 20 #[.pointer (some ⟨D, 0, none⟩)] w (OpenedW V w D es (oSafe rest safe es) t) := by
  obtain ⟨h1, o, h2, h3⟩ := h
  refine (Open_log h3 hsc hes hr).mono ?_
  rintro e w' ⟨L, own', dOwn', rfl, hL, hl, ho, hd, hdo, hc⟩
  refine ⟨L, rfl, ⟨hV L hL, h1, own', dOwn', fun g hg => hV g (ho g hg), fun g hg => ?_, hl, hd, hr, hes⟩, hL, hc.mono fun i _ hi => by rw [hi]; exact h1⟩
  rcases hdo with hdo | hdo
  · exact h2 g (by rw [← hdo, hg])
  · exact hV g (hdo g hg)
/-- opened again without a crash -/
theorem WReopen (h : WAt V w L D es safe t) (hV : ∀ k, w.heap.size ≤ k → V k) : Calls Try.prog 20 #[.pointer (some ⟨D, 0, none⟩)] w (OpenedW V w D es safe t) := by
  have h2 := WOpen (rest := []) h.disk hV (scanned_ents es h.sizes) h.sizes h.rdos
  have e : oSafe [] safe es = safe := rfl
  rwa [e] at h2
/-- behind a crash -/
theorem kept_le {n safe : Nat} {keep : Int} (h : safe ≤ n) : safe ≤ kept n safe keep ∧ kept n safe keep ≤ n := by unfold kept; omega
theorem WCrashed {i : Nat} {K : Nat} (h : DAt V w D ((eb es).take K) K) (hV : ∀ k, w.heap.size ≤ k → V k) (hs : ∀ e ∈ es, e.size ≤ 65536) (hr : rdos init21 es = some t) (hi : i ≤ es.length) (hK1 : (eb (es.take i)).length ≤ K) (hK2 : K ≤ (eb es).length) :
    ∃ (j : Nat) (t2 : LSt), i ≤ j ∧ j ≤ es.length ∧ (eb (es.take j)).length ≤ K ∧ rdos init21 (es.take j) = some t2 ∧ Calls Try.prog 20 #[.pointer (some ⟨D, 0, none⟩)] w (OpenedW V w D (es.take j) (eb (es.take j)).length t2) := by
  obtain ⟨j, hj, rest, hsc⟩ := cut_ents es K hs hK2
  obtain ⟨t2, h2⟩ := rdos_take hr j
  have hij := cut_behind hs hi hK1 hsc hj
  have hjK : (eb (es.take j)).length ≤ K := by
    have := congrArg List.length hsc.1
    rw [List.length_append, List.length_take] at this
    have e : (fframes (bases (es.take j))).length = (eb (es.take j)).length := rfl
    omega
  refine ⟨j, t2, hij, hj, hjK, h2, ?_⟩
  have h3 := WOpen h hV hsc (fun e he => hs e (List.mem_of_mem_take he)) h2
  have e : oSafe rest K (es.take j) = (eb (es.take j)).length := by
    unfold oSafe
    split
    · rename_i hr0
      have := congrArg List.length hsc.1
      rw [hr0, List.append_nil, List.length_take] at this
      show K = (fframes _).length
      omega
    · rfl
  rwa [e] at h3
/-- fresh: a disk and a log of it -/
def FreshW (V : Nat → Prop) (w : World) (e : Ending) (w' : World) : Prop :=
  ∃ L D, e = .returned (.tuple #[.pointer (some ⟨D, 0, none⟩), .pointer (some ⟨L, 0, none⟩), .bool true]) ∧ WAt V w' L D [] 0 init21 ∧ Chg V w w'
theorem fresh_calls (V : Nat → Prop) (w : World) (hV : ∀ k, w.heap.size ≤ k → V k) : Calls Try.prog 10 #[] w (FreshW V w) := by
  have HV := Lib.hid hV
  clear hV
  go_enter Try.func10, Try.ntmps10
  go_wp2_with fail
  refine (New_calls w).mono ?_
  rintro e w1 ⟨rfl, hd, hc1⟩
  have z1 := hc1.size
  have hd1 : DAt V w1 w.heap.size [] 0 := ⟨HV.out _ (Nat.le_refl _), none, (fun g hg => by cases hg), hd⟩
  have HO := WOpen (es := []) (rest := []) hd1 (fun k hk => HV.out k (by omega)) (scanned_ents [] (fun e he => by cases he)) (fun e he => by cases he) rfl
  have HO := Lib.hid HO
  clear hd1 hd
  go_wp2_with fail
  refine HO.out.mono ?_
  rintro e w2 ⟨L, rfl, h2, hL, hc2⟩
  go_wp2_with fail
  refine bodyPost_ret (v := .tuple #[.pointer (some ⟨w.heap.size, 0, none⟩), .pointer (some ⟨L, 0, none⟩), .bool true]) (by simp [results, Try.results10, go_sem]) rfl ?_
  exact ⟨L, _, rfl, h2, (hc1.wide).trans hc2 (fun _ _ h => h)⟩
end
end Go.Proofs.Ytlnjadnddldjeaa
