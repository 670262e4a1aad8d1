/-
  Plain laws of a log's records: what each does to what a log holds, and what rows of them hold.
-/
import Derived.Test.YtlnjadnddldjeaaWritten21
namespace Go.Proofs.Ytlnjadnddldjeaa
set_option linter.unusedVariables false
set_option linter.unusedSimpArgs false

/-- a record of a log -/
inductive Ent
  | put (n : Nat) (s : ByteArray)
  | note (s : ByteArray)
  | base (n : Nat) (s : ByteArray)
/-- what a log holds -/
structure LSt where
  f : Nat
  rs : List ByteArray
  snap : ByteArray
  note : ByteArray
def Ent.bytes : Ent → List UInt8
  | .put n s => wrec 1 (n : Int) s.data.toList
  | .note s => wrec 2 0 s.data.toList
  | .base n s => wrec 3 (n : Int) s.data.toList
def Ent.size : Ent → Nat
  | .put _ s => s.size
  | .note s => s.size
  | .base _ s => s.size
theorem Ent.bytes_length (e : Ent) : e.bytes.length = e.size + 9 := by
  cases e <;> simp only [Ent.bytes, Ent.size, wrec_length, Array.length_toList] <;> rfl
def bases (es : List Ent) : List (List UInt8) := es.map Ent.bytes
theorem bases_append (a b : List Ent) : bases (a ++ b) = bases a ++ bases b := List.map_append
theorem bases_length (a : List Ent) : (bases a).length = a.length := List.length_map ..
theorem bases_take (a : List Ent) (k : Nat) : bases (a.take k) = (bases a).take k := List.map_take ..
/-- the bytes of a row of records -/
def eb (es : List Ent) : List UInt8 := fframes (bases es)
theorem eb_nil : eb [] = [] := rfl
theorem eb_append (a b : List Ent) : eb (a ++ b) = eb a ++ eb b := by rw [eb, bases_append, fframes_append]; rfl
theorem eb_one (e : Ent) : eb [e] = fframe e.bytes := fframes_one _
theorem eb_one_length (e : Ent) : (eb [e]).length = e.size + 21 := by rw [eb_one, fframe_length, Ent.bytes_length]
theorem eb_snoc_length (a : List Ent) (e : Ent) : (eb (a ++ [e])).length = (eb a).length + (e.size + 21) := by rw [eb_append, List.length_append, eb_one_length]

def init21 : LSt := ⟨1, [], ⟨#[]⟩, ⟨#[]⟩⟩
/-- what one record does -/
def rdo (t : LSt) : Ent → Option LSt
  | .put n s => if t.f ≤ n ∧ n ≤ t.f + t.rs.length then some { t with rs := t.rs.take (n - t.f) ++ [s] } else none
  | .note s => some { t with note := s }
  | .base n s => if t.f ≤ n ∧ n ≤ 1073741824 then some { t with f := n, rs := [], snap := s } else none
def rdos (t : LSt) : List Ent → Option LSt
  | [] => some t
  | e :: es => match rdo t e with
    | none => none
    | some t' => rdos t' es
theorem rdos_append : ∀ (a b : List Ent) (t : LSt), rdos t (a ++ b) = match rdos t a with | none => none | some t' => rdos t' b
  | [], b, t => rfl
  | e :: a, b, t => by
    simp only [List.cons_append, rdos]
    cases rdo t e with
    | none => rfl
    | some t' => exact rdos_append a b t'
theorem rdos_snoc {a : List Ent} {e : Ent} {t t1 t2 : LSt} (h : rdos t a = some t1) (h2 : rdo t1 e = some t2) : rdos t (a ++ [e]) = some t2 := by
  rw [rdos_append, h]; show (match rdo t1 e with | none => none | some t' => rdos t' []) = _; rw [h2]; rfl
theorem rdos_take {a : List Ent} {t t1 : LSt} (h : rdos t a = some t1) (k : Nat) : ∃ t2, rdos t (a.take k) = some t2 := by
  have e := rdos_append (a.take k) (a.drop k) t
  rw [List.take_append_drop, h] at e
  cases hh : rdos t (a.take k) with
  | none => rw [hh] at e; cases e
  | some t2 => exact ⟨t2, rfl⟩
/-- step k of a replay -/
theorem rdos_at {a : List Ent} {t t1 t2 : LSt} {k : Nat} (h : rdos t a = some t1) (hk : k < a.length) (h2 : rdos t (a.take k) = some t2) : ∃ t3, rdo t2 a[k] = some t3 ∧ rdos t (a.take (k + 1)) = some t3 := by
  obtain ⟨t3, h3⟩ := rdos_take h (k + 1)
  have e : a.take (k + 1) = a.take k ++ [a[k]] := by rw [List.take_succ_eq_append_getElem hk]
  have h3' := h3
  rw [e, rdos_append, h2] at h3'
  refine ⟨t3, ?_, h3⟩
  change (match rdo t2 a[k] with | none => none | some t' => rdos t' []) = _ at h3'
  cases hh : rdo t2 a[k] with
  | none => rw [hh] at h3'; cases h3'
  | some t4 => rw [hh] at h3'; exact h3'
theorem rdo_len {t t1 : LSt} {e : Ent} (h : rdo t e = some t1) : t1.rs.length ≤ t.rs.length + 1 := by
  cases e with
  | put n s =>
    simp only [rdo] at h
    split at h
    · injection h with h; subst h; simp; omega
    · cases h
  | note s => simp only [rdo] at h; injection h with h; subst h; simp
  | base n s =>
    simp only [rdo] at h
    split at h
    · injection h with h; subst h; simp
    · cases h
theorem rdos_len : ∀ {a : List Ent} {t t1 : LSt}, rdos t a = some t1 → t1.rs.length ≤ t.rs.length + a.length
  | [], t, t1, h => by injection h with h; subst h; simp
  | e :: a, t, t1, h => by
    simp only [rdos] at h
    cases hh : rdo t e with
    | none => rw [hh] at h; cases h
    | some t' =>
      rw [hh] at h
      have h1 := rdos_len h
      have h2 := rdo_len hh
      simp only [List.length_cons]; omega
theorem rdo_f {t t1 : LSt} {e : Ent} (h : rdo t e = some t1) (hf : t.f ≤ 1073741824) : t.f ≤ t1.f ∧ t1.f ≤ 1073741824 := by
  cases e with
  | put n s =>
    simp only [rdo] at h
    split at h
    · injection h with h; subst h; exact ⟨Nat.le_refl _, hf⟩
    · cases h
  | note s => simp only [rdo] at h; injection h with h; subst h; exact ⟨Nat.le_refl _, hf⟩
  | base n s =>
    simp only [rdo] at h
    split at h
    · injection h with h; subst h; exact ⟨by simp; omega, by simp; omega⟩
    · cases h

/-- the records of a row, from a number on -/
def puts (f : Nat) : List ByteArray → List Ent
  | [] => []
  | s :: t => .put f s :: puts (f + 1) t
theorem puts_append (f : Nat) (a b : List ByteArray) : puts f (a ++ b) = puts f a ++ puts (f + a.length) b := by
  induction a generalizing f with
  | nil => simp [puts]
  | cons s a ih => simp only [List.cons_append, puts, ih, List.length_cons]; congr 3; omega
theorem puts_snoc (f : Nat) (a : List ByteArray) (s : ByteArray) : puts f (a ++ [s]) = puts f a ++ [.put (f + a.length) s] := by rw [puts_append]; rfl
theorem puts_length (f : Nat) (a : List ByteArray) : (puts f a).length = a.length := by
  induction a generalizing f with
  | nil => rfl
  | cons s a ih => simp [puts, ih]
def imgs (f : Nat) (snap note : ByteArray) (rs : List ByteArray) : List Ent := .base f snap :: .note note :: puts f rs
theorem imgs_append (f : Nat) (snap note : ByteArray) (a b : List ByteArray) : imgs f snap note (a ++ b) = imgs f snap note a ++ puts (f + a.length) b := by
  simp only [imgs, puts_append, List.cons_append]
theorem imgs_snoc (f : Nat) (snap note : ByteArray) (a : List ByteArray) (s : ByteArray) : imgs f snap note (a ++ [s]) = imgs f snap note a ++ [.put (f + a.length) s] := by
  rw [imgs_append]; rfl
theorem imgs_take_le (f : Nat) (snap note : ByteArray) (a : List ByteArray) (k : Nat) : (eb (imgs f snap note (a.take k))).length ≤ (eb (imgs f snap note a)).length := by
  have e := imgs_append f snap note (a.take k) (a.drop k)
  rw [List.take_append_drop] at e
  rw [e, eb_append, List.length_append]; omega
theorem imgs_nil_length (f : Nat) (snap note : ByteArray) : (eb (imgs f snap note [])).length = snap.size + 21 + (note.size + 21) := by
  show (eb ([.base f snap] ++ [.note note])).length = _
  rw [eb_append, List.length_append, eb_one_length, eb_one_length]; rfl
theorem puts_length_le {f : Nat} {a : List ByteArray} {m : Nat} (h : ∀ s ∈ a, s.size ≤ m) : (eb (puts f a)).length ≤ a.length * (m + 21) := by
  induction a generalizing f with
  | nil => simp [puts, eb_nil]
  | cons s a ih =>
    have e : puts f (s :: a) = [Ent.put f s] ++ puts (f + 1) a := rfl
    rw [e, eb_append, List.length_append, eb_one_length]
    have h1 := ih (f := f + 1) fun s hs => h s (List.mem_cons_of_mem _ hs)
    have h2 := h s (List.mem_cons_self ..)
    rw [List.length_cons, Nat.add_mul, Nat.one_mul]
    show (s.size + 21) + _ ≤ _
    omega
theorem imgs_length_le {f : Nat} {snap note : ByteArray} {a : List ByteArray} {m : Nat} (h : ∀ s ∈ a, s.size ≤ m) : (eb (imgs f snap note a)).length ≤ snap.size + 21 + (note.size + 21) + a.length * (m + 21) := by
  have e := imgs_append f snap note [] a
  rw [List.nil_append] at e
  rw [e, eb_append, List.length_append, imgs_nil_length]
  have := puts_length_le (f := f + ([] : List ByteArray).length) h
  omega
theorem rdos_puts (f : Nat) (t : LSt) (a : List ByteArray) (h : f = t.f + t.rs.length) : rdos t (puts f a) = some { t with rs := t.rs ++ a } := by
  induction a generalizing f t with
  | nil => simp [puts, rdos]
  | cons s a ih =>
    simp only [puts, rdos, rdo]
    rw [if_pos (by omega)]
    simp only
    have e : t.rs.take (f - t.f) = t.rs := List.take_of_length_le (by omega)
    rw [e, ih (f + 1) _ (by simp; omega)]
    simp
theorem rdos_imgs (f : Nat) (snap note : ByteArray) (rs : List ByteArray) (h1 : 1 ≤ f) (h2 : f ≤ 1073741824) : rdos init21 (imgs f snap note rs) = some ⟨f, rs, snap, note⟩ := by
  simp only [imgs, rdos, rdo, init21]
  rw [if_pos ⟨h1, h2⟩]
  simp only
  rw [rdos_puts _ _ _ (by simp)]
  simp
/-- a row of records that is cut off is a shorter row -/
theorem cut_ents (es : List Ent) (K : Nat) (hs : ∀ e ∈ es, e.size ≤ 65536) (hK : K ≤ (eb es).length) : ∃ j, j ≤ es.length ∧ ∃ rest, Scanned ((eb es).take K) (bases (es.take j)) rest := by
  obtain ⟨j, hj, rest, h⟩ := cut_frames (bases es) K (fun r hr => by
    obtain ⟨e, he, rfl⟩ := List.mem_map.1 hr
    have := hs e he
    rw [Ent.bytes_length]; omega) hK
  exact ⟨j, by rw [bases_length] at hj; exact hj, rest, by rw [bases_take]; exact h⟩
theorem scanned_ents (es : List Ent) (hs : ∀ e ∈ es, e.size ≤ 65536) : Scanned (eb es) (bases es) [] :=
  scanned_frames _ fun r hr => by
    obtain ⟨e, he, rfl⟩ := List.mem_map.1 hr
    have := hs e he
    rw [Ent.bytes_length]; omega
/-- a cut behind a row keeps the row -/
theorem cut_behind {es : List Ent} {i K j : Nat} {rest : List UInt8} (hs : ∀ e ∈ es, e.size ≤ 65536) (hi : i ≤ es.length) (hK : (eb (es.take i)).length ≤ K) (h : Scanned ((eb es).take K) (bases (es.take j)) rest) (hj : j ≤ es.length) : i ≤ j := by
  have e1 : eb es = eb (es.take i) ++ eb (es.drop i) := by rw [← eb_append, List.take_append_drop]
  have h2 : (eb es).take K = eb (es.take i) ++ (eb (es.drop i)).take (K - (eb (es.take i)).length) := by
    rw [e1, List.take_append, List.take_of_length_le hK]
  by_cases hk : K ≤ (eb es).length
  · obtain ⟨j', hj', rest', h'⟩ := cut_ents (es.drop i) (K - (eb (es.take i)).length) (fun e he => hs e (List.mem_of_mem_drop he)) (by
      have := congrArg List.length e1
      rw [List.length_append] at this; omega)
    have h3 : Scanned ((eb es).take K) (bases (es.take i) ++ bases ((es.drop i).take j')) rest' := by
      refine ⟨?_, h'.2.1, ?_⟩
      · rw [fframes_append, List.append_assoc, ← h'.1, h2]; rfl
      · intro r hr
        rcases List.mem_append.1 hr with hr | hr
        · obtain ⟨e, he, rfl⟩ := List.mem_map.1 hr
          have := hs e (List.mem_of_mem_take he)
          rw [Ent.bytes_length]; omega
        · exact h'.2.2 r hr
    have h4 := (Scanned.unique h h3).1
    have h5 := congrArg List.length h4
    rw [List.length_append, bases_length, bases_length, bases_length, List.length_take, List.length_take] at h5
    omega
  · rw [List.take_of_length_le (by omega)] at h
    have h4 := (Scanned.unique h (scanned_ents es hs)).1
    have h5 := congrArg List.length h4
    rw [bases_length, bases_length, List.length_take] at h5
    omega
end Go.Proofs.Ytlnjadnddldjeaa
