/-
  TopDistinct's row: a start that fits it, and the closed facts of the card that ask nothing great.
-/
import Derived.Test.YtchkcnecgfolmaaGreatDoorCards
import Derived.ChangeOld
import Derived.WalkKit
import Derived.ProofKit
import Derived.Deep.DeepHandedRow
import Derived.JoinedCond
import Derived.SevenTiedAt
import Derived.MakeChecks
namespace Go.Proofs.YtchkcnecgfolmaaGreatDoor.topDistinctDone
open Go Go.ChangeShapes Go.WideShapes Go.ChangeAt Go.RowKit
set_option linter.unusedVariables false
set_option maxRecDepth 100000

/-- a world for the witness: the settled one, the listed variables holding what their text lays -/
noncomputable def laidHeap (h : Array Obj) : Array Obj :=
  let lay (h : Array Obj) (g : Nat) (cs : Array Value) : Array Obj := h.modify g fun
    | .cells _ t frozen => .cells cs t frozen
    | o => o
  let u8 (l : List Nat) : Array Value := (l.map fun (n : Nat) => Value.int .u8 (n : Int)).toArray
  let n := h.size
  let h := lay h 3 #[.iface 717 (.pointer (some ⟨n, 0, none⟩))]
  let h := lay h 4 #[.iface 717 (.pointer (some ⟨n + 1, 0, none⟩))]
  let h := lay h 0 ((List.range 20).map fun (k : Nat) => Value.int .u64 ((10 ^ k : Nat) : Int)).toArray
  let h := lay h 5 (u8 [0, 1, 28, 2, 29, 14, 24, 3, 30, 22, 20, 15, 25, 17, 4, 8, 31, 27, 13, 23, 21, 19, 16, 7, 26, 12, 18, 6, 11, 5, 10, 9])
  let h := lay h 6 (u8 [0, 1, 56, 2, 57, 49, 28, 3, 61, 58, 42, 50, 38, 29, 17, 4, 62, 47, 59, 36, 45, 43, 51, 22, 53, 39, 33, 30, 24, 18, 12, 5, 63, 55, 48, 27, 60, 41, 37, 16, 46, 35, 44, 21, 52, 32, 23, 11, 54, 26, 40, 15, 34, 20, 31, 10, 25, 14, 19, 9, 13, 8, 7, 6])
  (h.push (.cells #[.string ⟨#[105, 110, 118, 97, 108, 105, 100, 32, 115, 121, 110, 116, 97, 120]⟩] 719 (0, 0))).push (.cells #[.string ⟨#[118, 97, 108, 117, 101, 32, 111, 117, 116, 32, 111, 102, 32, 114, 97, 110, 103, 101]⟩] 719 (0, 0))
noncomputable def laidWorld (os : Os) : World :=
  { World.holding Tryz.prog os ⟨#[], #[], []⟩ with heap := laidHeap (World.holding Tryz.prog os ⟨#[], #[], []⟩).heap }
/-- the start -/
noncomputable def startW (os : Os) : World := ((laidWorld os).forCall (fun _ _ => 0) ⟨#[], #[.int .i64 0, .int .i64 0], []⟩)
theorem names_are : (Rows.topDistinctRow.laid.map (·.1)) = ["strconv.ErrSyntax", "strconv.ErrRange", "internal/strconv.uint64pow10", "math/bits.deBruijn32tab", "math/bits.deBruijn64tab"] := by kernel_rfl
theorem met0 (os : Os) : (DataW.laidRun Tryz.prog (startW os).memory 8 (Rows.topDistinctRow.laid.map (·.1))).map (·.1) = some Rows.topDistinctRow.laid := by kernel_rfl
theorem met1 (os : Os) : (DataW.laidRun Tryz.prog (startW os).memory 8 (Rows.topDistinctRow.laid.map (·.1))).map (fun x => decide x.2.Nodup && laidRowsB Tryz.prog (startW os).memory x.2) = some true := by kernel_rfl
theorem plainH : (Rows.topDistinctRow.laid.all fun x => x.2.handleName?.isNone) = true := by kernel_rfl
theorem laid_met (os : Os) : laidMetH Tryz.prog Rows.topDistinctRow.laid (startW os).memory := by
  rw [MakeChecks.laidMetH_plain _ _ _ plainH]
  exact laidMet_of_run' 8 (met0 os) (met1 os)
theorem reads (os : Os) {H : Type} (enc : TypeId × Value → H) : DataW.whole enc Tryz.prog (startW os).memory Tryz.f4.params.toList Rows.topDistinctSpec.vars false (#[.int .i64 0, .int .i64 0] : Array Value).toList 8 = some ([.lit (.int .i64 0), .lit (.int .i64 0)], [], []) := by kernel_rfl
theorem own : ownKnob Tryz.prog.godebug = none := by kernel_rfl
theorem noInit : Tryz.prog.inits.idxOf? 4 = none := by kernel_rfl
theorem shaped0 (os : Os) : (startW os).variablesB Tryz.prog = true := by kernel_rfl
theorem shaped1 (os : Os) : ((startW os).heap.toList.drop Tryz.prog.globals.size).take ((begin Tryz.prog (fun _ _ => 0) default).world.heap.size - Tryz.prog.globals.size) =
      (begin Tryz.prog (fun _ _ => 0) default).world.heap.toList.drop Tryz.prog.globals.size := by kernel_rfl
theorem okIn (os : Os) : Input.okWideB Tryz.prog (startW os) 4 ⟨#[], #[.int .i64 0, .int .i64 0], []⟩ = true := by kernel_rfl
theorem conds {H : Type} : (Rows.topDistinctRow.domain).all (PathCond.test Tryz.prog ⟨Tryz.f4.params.toList, ([.lit (.int .i64 0), .lit (.int .i64 0)] : List (DataW H)), Rows.topDistinctSpec.plain.varTypes Tryz.prog, []⟩) = true := by kernel_rfl
theorem sized (os : Os) {H : Type} (enc : TypeId × Value → H) : (OpenSpec.ofChange Rows.topDistinctSpec).bare.sizedB enc Tryz.prog Tryz.f4 false (startW os).memory #[.int .i64 0, .int .i64 0] 8 = true := by kernel_rfl
theorem fname : Tryz.prog.funcNamed Rows.topDistinctRow.func = some 4 := by kernel_rfl
theorem instB : decide (Tryz.f4.isInstance Tryz.prog Rows.topDistinctRow.origin Rows.topDistinctRow.targs) = true := by kernel_rfl
theorem wrapB : Tryz.f4.isWrapper Tryz.prog Rows.topDistinctRow.wrapper Rows.topDistinctRow.mainSum := by
  unfold Func.isWrapper; first | (rw [if_pos (by decide +kernel)]; kernel_rfl) | (rw [if_neg (by decide +kernel)]; exact ⟨rfl, rfl⟩)
theorem wfB : Rows.topDistinctRow.wfByText (OpenSpec.ofChange Rows.topDistinctSpec) = true := by kernel_rfl
theorem looksB : true = Tryz.prog.looks [] := by kernel_rfl
theorem standB : Tryz.prog.wantsStandIn 3 = false := by kernel_rfl
theorem mainB : Tryz.prog.mainIs = some (true, "d57ebac7075a23450241b13a0729af7965d1b3d7df7aaf8717db6b2b445667f2".toList) := by kernel_rfl
end Go.Proofs.YtchkcnecgfolmaaGreatDoor.topDistinctDone
