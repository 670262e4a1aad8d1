/-
  TopDistinct: for every input the law returns true, and each argument reads afterwards as it read before. No condition.
-/
import Derived.Test.YtchkcnecgfolmaaGreatDoorCards
import Derived.Test.YtchkcnecgfolmaaGreatDoorDisTieB
import Derived.Test.YtchkcnecgfolmaaGreatDoorDisTieC
import Derived.Test.YtchkcnecgfolmaaGreatDoorDisWit
import Derived.Test.YtchkcnecgfolmaaGreatDoorDisFactsC
import Derived.Test.YtchkcnecgfolmaaGreatDoorDisRunF
import Derived.ChangeOld
import Derived.WalkKit
import Derived.ProofKit
import Derived.OpenShut
import Derived.Deep.DeepHandedRow
import Derived.JoinedCond
import Derived.SevenTiedAt
namespace Go.Proofs.YtchkcnecgfolmaaGreatDoor.disTie
open Go
theorem tie : Tryz.prog.laidByTextLater laidL [.sentinel, .sentinel, .data, .data, .data] true :=
  Program.laidByTextLater_by_run 400 8 worded wordedNot rooted kinds named fits done read apart
theorem topDistinct_row_tie : Rows.topDistinctRow.laidByTextAt .later Tryz.pinned [.sentinel, .sentinel, .data, .data, .data] true :=
  OpenClaim.laidByTextAt_later rfl rfl tie noOwn
end Go.Proofs.YtchkcnecgfolmaaGreatDoor.disTie
namespace Go.Proofs.YtchkcnecgfolmaaGreatDoor.topDistinctDone
open Go.ChangeShapes Go.WideShapes Go.ChangeAt Go.RowKit
set_option linter.unusedVariables false

theorem int_wf_i64 {n : Int} (h : (Lit.int .i64 n).wf = true) : -9223372036854775808 ≤ n ∧ n ≤ 9223372036854775807 := by
  simpa [Lit.wf, IntKind.min, IntKind.max, IntKind.signed, IntKind.bits] using h

set_option maxRecDepth 100000 in
theorem contract (H : Type) (enc : TypeId × Value → H) (W : World) (base : Nat) (args : Array Value) (ds gs : List (DataW H)) (before : List MemPlace)
    (hval : ∀ (j : Nat) t v, Tryz.f4.params[j]? = some t → args[j]? = some v → Value.okWide Tryz.prog W .any base t v)
    (hW : DataW.Whole enc Tryz.prog Tryz.f4.params.toList Rows.topDistinctSpec.vars false W args.toList ds gs before) :
    Calls Tryz.prog 4 args W fun e W' => ∃ v, e = .returned v ∧ Rows.topDistinctSpec.post enc Tryz.prog Tryz.f4 false true false false W args v W' := by
  have hW' := hW
  obtain ⟨p, q, hA0, hV, rfl, hfz, hnd⟩ := hW
  have hA : DataW.TrodAll enc Tryz.prog W 0 (fun _ => true) true Tryz.f4.params.toList args.toList ds p := hA0
  rw [Tryz.params4] at hA hval
  obtain ⟨v0, vs0, d0, ds0, p0, q0, hargs, rfl, rfl, h0, r0⟩ := trodAll_cons hA
  obtain ⟨v1, vs1, d1, ds1, p1, q1, rfl, rfl, rfl, h1, r1⟩ := trodAll_cons r0
  obtain ⟨rfl, rfl, rfl⟩ := trodAll_nil r1
  obtain rfl : args = #[v0, v1] := by cases args; simp_all
  obtain ⟨rfl, rfl⟩ := trodVars_none hV
  obtain ⟨a0, rfl, rfl, rfl, wf0⟩ := open_int Tryz.underlying3 (hval 0 3 v0 rfl rfl) h0
  obtain ⟨a1, rfl, rfl, rfl, wf1⟩ := open_int Tryz.underlying3 (hval 1 3 v1 rfl rfl) h1
  clear hA0 hval
  refine (Ev.dist_calls (int_wf_i64 wf0) (int_wf_i64 wf1) W).mono fun e W' ⟨he, bel⟩ => ?_
  subst he
  exact ⟨_, rfl, _, _, _, [], _, [], hW', trodAll_mk1 (shut_bool Tryz.underlying4 _), (trodAll_cons_mk (shut_int Tryz.underlying3 wf0) (trodAll_cons_mk (shut_int Tryz.underlying3 wf1) trodAll_mk0)), rfl, bel.frame _, fun h => by cases h⟩

set_option maxRecDepth 100000 in
theorem lifted (os : Os) (started : os.Started) (H : Type) (enc : TypeId × Value → H) (F : Stop.Interp) :
    ReturnsInHanded {} Tryz.checked os 4 .any ((OpenSpec.ofChange Rows.topDistinctSpec).preRow enc Tryz.prog Tryz.f4 Rows.topDistinctRow.domain false Rows.topDistinctRow.laid) (((OpenSpec.ofChange Rows.topDistinctSpec).at F).post enc Tryz.prog Tryz.f4 false true false false) := by
  refine returnsInHanded_of_row (C := Tryz.checked) (s := OpenSpec.ofChange Rows.topDistinctSpec) own started noInit Tryz.func4
    (witness_row_at (enc := enc) (C := Tryz.checked) false (laidWorld os) #[.int .i64 0, .int .i64 0] rfl (shaped0 os) (shaped1 os) (okIn os)
      (OpenSpec.preRow_of_cond 8 (reads os enc) conds (fun k hk => by cases hk) (sized os enc) (laid_met os))) ?_
  intro W base args ds gs before hval hW _ _ _ hL _ _
  exact contract H enc W base args ds gs before hval hW

theorem closed : joinedFacts Tryz.pinned.checked.prog 4 Tryz.f4 (OpenSpec.ofChange Rows.topDistinctSpec).bare Rows.topDistinctRow = true := by
  have e : Tryz.pinned.checked.prog = Tryz.prog := by kernel_rfl
  rw [e]
  exact disFacts.closed

theorem said : Rows.TopDistinctSaid :=
  OpenClaim.holds_of_cond 4 Tryz.f4 rfl rfl rfl rfl rfl rfl rfl ⟨rfl, rfl, rfl, rfl, rfl⟩ rfl rfl rfl rfl rfl fname Tryz.func4 closed
    (of_decide_eq_true instB) wrapB
    (fun os started H enc _ F => by rw [OpenClaim.pre_eq_preRow]; exact lifted os started H enc F)

theorem plain (f : FuncId) (fn : Func) (hf : Tryz.pinned.checked.prog.funcNamed Rows.topDistinctRow.func = some f) (hfn : Tryz.pinned.checked.prog.funcs[f]? = some fn) :
    true = Tryz.pinned.checked.prog.looks [] ∧ ∀ (j : Nat) t, fn.params[j]? = some t → Tryz.pinned.checked.prog.wantsStandIn t = false := by
  have e1 : f = 4 := (Option.some.inj (fname.symm.trans hf)).symm
  subst e1
  have e2 : fn = Tryz.f4 := (Option.some.inj (Tryz.func4.symm.trans hfn)).symm
  subst e2
  refine ⟨looksB, fun j t ht => ?_⟩
  rw [Tryz.params4] at ht
  have e3 : t = 3 := by have := Array.mem_of_getElem? ht; simpa using this
  subst e3
  exact standB

theorem goesB : false = Rows.topDistinctRow.goesBy Tryz.prog := by
  have h : Tryz.prog.goesFrom Rows.topDistinctRow.func = false := by
    unfold Program.goesFrom
    rw [fname, Option.any_some, disFacts.goes_is]
  unfold OpenClaim.goesBy Program.goesAt
  rw [h]
  rfl

theorem proved : Rows.TopDistinctCardSaid :=
  Claim7.holds_tied_plain_at .later [] _ _ _ _ said (fun _ h => by cases h) wfB (fun _ h => by cases h) disTie.topDistinct_row_tie rfl ⟨rfl, rfl⟩ mainB rfl plain goesB
#print axioms proved
end Go.Proofs.YtchkcnecgfolmaaGreatDoor.topDistinctDone
