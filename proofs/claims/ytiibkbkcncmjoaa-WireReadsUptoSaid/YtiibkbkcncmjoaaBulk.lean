/-
  For the statements '..UptoSaid': what the bound on all that comes in says of a slice's length and of the texts in a slice of parts.
-/
import Derived.Test.YtiibkbkcncmjoaaRows
import Derived.Test.YtiibkbkcncmjoaaParts
namespace Go.Proofs.Ytiibkbkcncmjoaa.bulks

theorem part_le {H : Type} {d : DataW H} {l : List (DataW H)} (h : d ∈ l) : Rows.uptoBulk d ≤ Rows.uptoBulkAll l := by
  induction l with
  | nil => cases h
  | cons x r ih =>
    simp only [Rows.uptoBulkAll]
    cases List.mem_cons.1 h with
    | inl e => subst e; omega
    | inr e => have := ih e; omega
theorem one_le {H : Type} (d : DataW H) : 1 ≤ Rows.uptoBulk d := by
  cases d with
  | lit l => cases l <;> simp [Rows.uptoBulk]
  | nil => simp [Rows.uptoBulk]
  | ptr d => simp [Rows.uptoBulk]
  | slice elems spare => simp [Rows.uptoBulk]
  | agg parts => simp [Rows.uptoBulk]
  | iface t d => simp [Rows.uptoBulk]
  | map entries => simp [Rows.uptoBulk]
  | held h => simp [Rows.uptoBulk]
theorem length_le {H : Type} (l : List (DataW H)) : l.length ≤ Rows.uptoBulkAll l := by
  induction l with
  | nil => simp [Rows.uptoBulkAll]
  | cons x r ih => have := one_le x; simp only [Rows.uptoBulkAll, List.length_cons]; omega
theorem bound {H : Type} {l : List (DataW H)} (hk : Rows.uptoSmall H l = true) : Rows.uptoBulkAll l ≤ 1048576 := of_decide_eq_true hk
/-- a slice that came in has so few elements -/
theorem slice_small {H : Type} {enc : TypeId × Value → H} {P : Program} {w : World} {base : Nat} {held : Bool} {t e : TypeId} {fuel : Nat} {A : Option Addr} {n c : Nat} {d : DataW H} {pl : List MemPlace} {l : List (DataW H)} (ht : P.underlying t = some (.slice e)) (h : DataW.trod enc P w base (fun _ => true) held fuel t [.slice A n c] = some (d, pl))
    (h1 : Rows.uptoBulk d ≤ Rows.uptoBulkAll l) (h2 : Rows.uptoBulkAll l ≤ 1048576) : n ≤ 1048576 := by
  rcases slice_data ht h with ⟨h0, _, _⟩ | ⟨elems, spare, hx, hn, _⟩
  · omega
  · simp only at hx
    subst hx
    simp only [Rows.uptoBulk] at h1
    have := length_le elems
    omega
/-- the texts of a slice of parts are so short -/
theorem parts_small {H : Type} {d : DataW H} {l : List (DataW H)} (h1 : Rows.uptoBulk d ≤ Rows.uptoBulkAll l) (h2 : Rows.uptoBulkAll l ≤ 1048576) : PartsData 1048576 d := by
  intro elems spare e d0 d1 d2 s hm _
  subst e
  simp only [Rows.uptoBulk] at h1
  have h3 := part_le hm
  simp only [Rows.uptoBulk, Rows.uptoBulkAll] at h3
  omega
end Go.Proofs.Ytiibkbkcncmjoaa.bulks
