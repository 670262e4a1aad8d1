/-
  Contract of law 21's known.
-/
import Derived.Test.YtlnjadnddldjeaaWal
namespace Go.Proofs.Ytlnjadnddldjeaa
open Go.RowKit
set_option linter.unusedVariables false
set_option linter.unusedSimpArgs false

/-- known is true and leaves what was there -/
def Known21 (w : World) (e : Ending) (w' : World) : Prop := e = .returned (.bool true) ∧ Chg (fun _ => False) w w'
def sA : ByteArray := ⟨#[97]⟩
def sB : ByteArray := ⟨#[98]⟩
def sC : ByteArray := ⟨#[99]⟩
def kEs : List Ent := [.put 1 sA, .put 2 sB]
theorem kEs_len : (eb kEs).length = 44 ∧ (eb (kEs.take 1)).length = 22 ∧ (eb (kEs.take 2)).length = 44 := by
  have e1 : (eb (kEs.take 1)).length = 22 := by
    show (eb [Ent.put 1 sA]).length = 22
    rw [eb_one_length]; rfl
  have e2 : (eb kEs).length = 44 := by
    show (eb ([Ent.put 1 sA] ++ [Ent.put 2 sB])).length = 44
    rw [eb_append, List.length_append, eb_one_length, eb_one_length]; rfl
  exact ⟨e2, e1, e2⟩

set_option maxRecDepth 100000 in
set_option maxHeartbeats 2000000 in
theorem known_calls (w : World) : Calls Try.prog 23 #[] w (Known21 w) := by
  obtain ⟨W, hW⟩ : ∃ W, w.heap.size = W := ⟨_, rfl⟩
  have HW := Lib.hid hW
  have HF := Lib.hid (fresh_calls (fun k => W ≤ k) w (fun k hk => by omega))
  obtain ⟨q1, q2, q3⟩ := kEs_len
  have Q1 := Lib.hid q1
  have Q2 := Lib.hid q2
  have Q3 := Lib.hid q3
  clear hW q1 q2 q3
  go_enter Try.func23, Try.ntmps23
  go_wp2_with fail
  refine HF.out.mono ?_
  rintro e w1 ⟨L, D, rfl, h1, hc1⟩
  have z1 := hc1.size
  have H1 := Lib.hid (WPut (s := sA) (n := 1) (m := 1) h1 (fun k hk => by have := HW.out; omega) rfl (by decide) (by decide) (by decide) (by decide) (by decide) (by rw [eb_nil]; decide))
  clear h1
  go_wp2_with fail
  refine H1.out.mono ?_
  rintro e w2 ⟨rfl, h2, hc2⟩
  have z2 := hc2.size
  have H2 := Lib.hid (WSync h2)
  clear h2
  go_wp2_with fail
  refine H2.out.mono ?_
  rintro e w3 ⟨rfl, h3, hc3⟩
  have z3 := hc3.size
  have H3 := Lib.hid (WPut (s := sB) (n := 2) (m := 2) h3 (fun k hk => by have := HW.out; omega) rfl (by decide) (by decide) (by decide) (by decide) (by decide) (by
    have := Q2.out
    have e : (eb ([] ++ [Ent.put 1 sA])).length = (eb (kEs.take 1)).length := rfl
    rw [e, this]; decide))
  clear h3
  go_wp2_with fail
  refine H3.out.mono ?_
  rintro e w4 ⟨rfl, h4, hc4⟩
  have z4 := hc4.size
  have hes : [] ++ [Ent.put 1 sA] ++ [Ent.put 2 sB] = kEs := rfl
  rw [hes, show (eb ([] ++ [Ent.put 1 sA])).length = 22 from Q2.out] at h4
  have h4s := h4.sizes
  have h4r := h4.rdos
  have H4 := WCrash h4 3
  rw [Q1.out, show kept 44 22 3 = 25 from rfl] at H4
  have H4 := Lib.hid H4
  clear h4 hes
  go_wp2_with fail
  refine H4.out.mono ?_
  rintro e w5 ⟨rfl, h5, hc5⟩
  have z5 := hc5.size
  obtain ⟨j, t2, hj1, hj2, hj3, hj4, H5⟩ := WCrashed (i := 1) h5 (fun k hk => by have := HW.out; omega) h4s h4r (by decide) (by rw [Q2.out]; decide) (by rw [Q1.out]; decide)
  have hj : j = 1 := by
    have e2 : kEs.length = 2 := rfl
    have : ¬ j = 2 := fun e => by rw [e, Q3.out] at hj3; omega
    omega
  subst hj
  have ht2 : t2 = ⟨1, [sA], ⟨#[]⟩, ⟨#[]⟩⟩ := by
    have e : rdos init21 (kEs.take 1) = some ⟨1, [sA], ⟨#[]⟩, ⟨#[]⟩⟩ := rfl
    rw [e] at hj4
    injection hj4 with hj4
    exact hj4.symm
  subst ht2
  have H5 := Lib.hid H5
  clear h5 hj1 hj2 hj3 hj4 h4s h4r
  go_wp2_with fail
  refine H5.out.mono ?_
  rintro e w6 ⟨L2, rfl, h6, hL2, hc6⟩
  have z6 := hc6.size
  have HN := WNext h6
  rw [show (((⟨1, [sA], ⟨#[]⟩, ⟨#[]⟩⟩ : LSt).f + (⟨1, [sA], ⟨#[]⟩, ⟨#[]⟩⟩ : LSt).rs.length : Nat) : Int) = 2 from rfl] at HN
  have HN := Lib.hid HN
  go_wp2_with fail
  refine HN.out.mono ?_
  rintro e w7 ⟨rfl, q7, rfl⟩
  have h7 := h6.keep ((Chg.refl (fun _ => False) w6).drewN q7)
  have H7 := Lib.hid (WPut (s := sB) (n := 2) (m := 2) h7 (fun k hk => by have := HW.out; have : w6.heap.size ≤ k := hk; omega) rfl (by decide) (by decide) (by decide) (by decide) (by decide) (by rw [Q2.out]; decide))
  clear h7 h6
  go_wp2_with fail
  refine H7.out.mono ?_
  rintro e w8 ⟨rfl, h8, hc8⟩
  have z8 : w6.heap.size ≤ w8.heap.size := hc8.size
  have H8 := Lib.hid (WPut (s := sC) (n := 1) (m := 1) h8 (fun k hk => by have := HW.out; omega) rfl (by decide) (by decide) (by decide) (by decide) (by decide) (by rw [eb_snoc_length, Q2.out]; decide))
  clear h8
  go_wp2_with fail
  refine H8.out.mono ?_
  rintro e w9 ⟨rfl, h9, hc9⟩
  have H9 := WGet_in (m := 1) (k := 0) (s := sC) h9 rfl rfl
  have H9 := Lib.hid H9
  go_wp2_with fail
  refine H9.out.mono ?_
  rintro e w10 ⟨rfl, q10, rfl⟩
  have h10 := h9.keep ((Chg.refl (fun _ => False) w9).drewN q10)
  have HM := WNext h10
  rw [show (((putS (putS (⟨1, [sA], ⟨#[]⟩, ⟨#[]⟩⟩ : LSt) 2 sB) 1 sC).f + (putS (putS (⟨1, [sA], ⟨#[]⟩, ⟨#[]⟩⟩ : LSt) 2 sB) 1 sC).rs.length : Nat) : Int) = 2 from rfl] at HM
  have HM := Lib.hid HM
  clear h9 h10
  go_wp2_with fail
  refine HM.out.mono ?_
  rintro e w11 ⟨rfl, q11, rfl⟩
  have hsC : sC = (⟨#[99]⟩ : ByteArray) := rfl
  go_wp2_with fail
  go_ret
  refine ⟨rfl, ?_⟩
  have a : Chg (fun k => W ≤ k) w (w9.drewN (q10 + q11)) := (((((((((hc1.trans hc2 (fun _ _ h => h)).trans hc3 (fun _ _ h => h)).trans hc4 (fun _ _ h => h)).trans hc5 (fun _ _ h => h)).trans hc6 (fun _ _ h => h)).drewN q7).trans hc8 (fun _ _ h => h)).trans hc9 (fun _ _ h => h))).drewN _
  exact a.new fun k hk h => by have := HW.out; omega
end Go.Proofs.Ytlnjadnddldjeaa
