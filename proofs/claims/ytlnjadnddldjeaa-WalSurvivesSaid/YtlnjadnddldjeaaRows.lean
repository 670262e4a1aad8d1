/-
  No cell of these rows narrows 'for every input' (looked for: loops, veiled, ifaces, maps, wideKeys, modest, calm, conditions, laid).
  DERIVED. THE GIVEN ROWS OF THIS SEAT. 7 by the template 'for every input the law returns true; each argument reads behind the call as it read before'; 0 by the template 'total and deterministic' (their statements: YtlnjadnddldjeaaTotals.lean).
  GIVEN WITH THE SEED: the statements are not yours to turn. If you find one false, say at which input.
  Laid BY PROGRAM, IN A SANDBOX (cutbox-rows.mjs): the forced cells as the released guide's own fill.sh prints them over the translation 099d337839964a70… (all of the seat's roots in one cut). By AI agents, Wed Nov 11 2026. No macro, syntax, notation, axiom, sorry.
-/
import Derived.Test.YtlnjadnddldjeaaChecked
import GoSem.Claim
import GoSem.ClaimJoined
import GoSem.ClaimMapViews
import Derived.JoinedTies
import Derived.KernelRfl
namespace Go.Proofs.Ytlnjadnddldjeaa
/- THE CELL 'sum', in the pinned program and in every row, IS THE sha256 OF THE DUMP (.gsa) THAT YtlnjadnddldjeaaProg.lean LOADS. Nothing in Lean hashes anything: it is a label: what it is worth is what the hold of that sum in a sandbox is worth. -/
noncomputable def Try.pinned : Pinned := { name := "ytlnjadnddldjeaa", sum := "099d337839964a70f72759d59d4b2c09ba4ac093f25444c17cc05598cfd62489", checked := Try.checked }
namespace Rows
def none {H : Type} : Left H := { results := [], args := [] }

/-- 'confluencelaw21.WalTorn': WHATEVER THE INPUT: true; the input reads as it did. -/
def walTornSpec : ChangeSpec := { name := "walTorn", fn := fun _ => fun
  | [d1, d2, d3] => { results := [.lit (.bool true)], args := [d1, d2, d3] }
  | _ => none }
def walTornRow : OpenClaim := { program := "ytlnjadnddldjeaa", sum := "099d337839964a70f72759d59d4b2c09ba4ac093f25444c17cc05598cfd62489", func := "confluence/confluencelaw21.WalTorn", spec := "walTorn", apart := false }
def WalTornSaid : Prop := walTornRow.holds Try.pinned (OpenSpec.ofChange walTornSpec)

/-- ITS FALSE NEIGHBOUR: 'it returns false'. Refute it at one input. -/
def walTornWrong : ChangeSpec := { name := "walTorn", fn := fun _ => fun
  | [d1, d2, d3] => { results := [.lit (.bool false)], args := [d1, d2, d3] }
  | _ => none }
def WalTornWrongFalsely : Prop := walTornRow.holds Try.pinned (OpenSpec.ofChange walTornWrong)

/-- 'confluencelaw21.WalNotes': WHATEVER THE INPUT: true; the input reads as it did. -/
def walNotesSpec : ChangeSpec := { name := "walNotes", fn := fun _ => fun
  | [d1, d2] => { results := [.lit (.bool true)], args := [d1, d2] }
  | _ => none }
def walNotesRow : OpenClaim := { program := "ytlnjadnddldjeaa", sum := "099d337839964a70f72759d59d4b2c09ba4ac093f25444c17cc05598cfd62489", func := "confluence/confluencelaw21.WalNotes", spec := "walNotes", apart := false }
def WalNotesSaid : Prop := walNotesRow.holds Try.pinned (OpenSpec.ofChange walNotesSpec)

/-- ITS FALSE NEIGHBOUR: 'it returns false'. Refute it at one input. -/
def walNotesWrong : ChangeSpec := { name := "walNotes", fn := fun _ => fun
  | [d1, d2] => { results := [.lit (.bool false)], args := [d1, d2] }
  | _ => none }
def WalNotesWrongFalsely : Prop := walNotesRow.holds Try.pinned (OpenSpec.ofChange walNotesWrong)

/-- 'confluencelaw21.WalGoes': WHATEVER THE INPUT: true; the input reads as it did. -/
def walGoesSpec : ChangeSpec := { name := "walGoes", fn := fun _ => fun
  | [d1, d2, d3] => { results := [.lit (.bool true)], args := [d1, d2, d3] }
  | _ => none }
def walGoesRow : OpenClaim := { program := "ytlnjadnddldjeaa", sum := "099d337839964a70f72759d59d4b2c09ba4ac093f25444c17cc05598cfd62489", func := "confluence/confluencelaw21.WalGoes", spec := "walGoes", apart := false }
def WalGoesSaid : Prop := walGoesRow.holds Try.pinned (OpenSpec.ofChange walGoesSpec)

/-- ITS FALSE NEIGHBOUR: 'it returns false'. Refute it at one input. -/
def walGoesWrong : ChangeSpec := { name := "walGoes", fn := fun _ => fun
  | [d1, d2, d3] => { results := [.lit (.bool false)], args := [d1, d2, d3] }
  | _ => none }
def WalGoesWrongFalsely : Prop := walGoesRow.holds Try.pinned (OpenSpec.ofChange walGoesWrong)

/-- 'confluencelaw21.WalNumbers': WHATEVER THE INPUT: true; the input reads as it did. -/
def walNumbersSpec : ChangeSpec := { name := "walNumbers", fn := fun _ => fun
  | [] => { results := [.lit (.bool true)], args := [] }
  | _ => none }
def walNumbersRow : OpenClaim := { program := "ytlnjadnddldjeaa", sum := "099d337839964a70f72759d59d4b2c09ba4ac093f25444c17cc05598cfd62489", func := "confluence/confluencelaw21.WalNumbers", spec := "walNumbers", apart := false }
def WalNumbersSaid : Prop := walNumbersRow.holds Try.pinned (OpenSpec.ofChange walNumbersSpec)

/-- ITS FALSE NEIGHBOUR: 'it returns false'. Refute it at one input. -/
def walNumbersWrong : ChangeSpec := { name := "walNumbers", fn := fun _ => fun
  | [] => { results := [.lit (.bool false)], args := [] }
  | _ => none }
def WalNumbersWrongFalsely : Prop := walNumbersRow.holds Try.pinned (OpenSpec.ofChange walNumbersWrong)

/-- 'confluencelaw21.WalSurvives': WHATEVER THE INPUT: true; the input reads as it did. -/
def walSurvivesSpec : ChangeSpec := { name := "walSurvives", fn := fun _ => fun
  | [d] => { results := [.lit (.bool true)], args := [d] }
  | _ => none }
def walSurvivesRow : OpenClaim := { program := "ytlnjadnddldjeaa", sum := "099d337839964a70f72759d59d4b2c09ba4ac093f25444c17cc05598cfd62489", func := "confluence/confluencelaw21.WalSurvives", spec := "walSurvives", apart := false }
def WalSurvivesSaid : Prop := walSurvivesRow.holds Try.pinned (OpenSpec.ofChange walSurvivesSpec)

/-- ITS FALSE NEIGHBOUR: 'it returns false'. Refute it at one input. -/
def walSurvivesWrong : ChangeSpec := { name := "walSurvives", fn := fun _ => fun
  | [d] => { results := [.lit (.bool false)], args := [d] }
  | _ => none }
def WalSurvivesWrongFalsely : Prop := walSurvivesRow.holds Try.pinned (OpenSpec.ofChange walSurvivesWrong)

/-- 'confluencelaw21.WalBases': WHATEVER THE INPUT: true; the input reads as it did. -/
def walBasesSpec : ChangeSpec := { name := "walBases", fn := fun _ => fun
  | [d1, d2, d3, d4] => { results := [.lit (.bool true)], args := [d1, d2, d3, d4] }
  | _ => none }
def walBasesRow : OpenClaim := { program := "ytlnjadnddldjeaa", sum := "099d337839964a70f72759d59d4b2c09ba4ac093f25444c17cc05598cfd62489", func := "confluence/confluencelaw21.WalBases", spec := "walBases", apart := false }
def WalBasesSaid : Prop := walBasesRow.holds Try.pinned (OpenSpec.ofChange walBasesSpec)

/-- ITS FALSE NEIGHBOUR: 'it returns false'. Refute it at one input. -/
def walBasesWrong : ChangeSpec := { name := "walBases", fn := fun _ => fun
  | [d1, d2, d3, d4] => { results := [.lit (.bool false)], args := [d1, d2, d3, d4] }
  | _ => none }
def WalBasesWrongFalsely : Prop := walBasesRow.holds Try.pinned (OpenSpec.ofChange walBasesWrong)

/-- 'confluencelaw21.WalPlays': WHATEVER THE INPUT: true; the input reads as it did. -/
def walPlaysSpec : ChangeSpec := { name := "walPlays", fn := fun _ => fun
  | [d] => { results := [.lit (.bool true)], args := [d] }
  | _ => none }
def walPlaysRow : OpenClaim := { program := "ytlnjadnddldjeaa", sum := "099d337839964a70f72759d59d4b2c09ba4ac093f25444c17cc05598cfd62489", func := "confluence/confluencelaw21.WalPlays", spec := "walPlays", apart := false }
def WalPlaysSaid : Prop := walPlaysRow.holds Try.pinned (OpenSpec.ofChange walPlaysSpec)

/-- ITS FALSE NEIGHBOUR: 'it returns false'. Refute it at one input. -/
def walPlaysWrong : ChangeSpec := { name := "walPlays", fn := fun _ => fun
  | [d] => { results := [.lit (.bool false)], args := [d] }
  | _ => none }
def WalPlaysWrongFalsely : Prop := walPlaysRow.holds Try.pinned (OpenSpec.ofChange walPlaysWrong)

/- THE SECOND FORM. 'bulk': how many values and letters a reading holds, each counted each time it is reached (what is shared counts as often as it is met; a slice's spare places count too). A statement '..UptoSaid' is the law's where the arguments, and the package variables that the reading takes, are together of bulk at most 1048576: NARROWER than '..Said'. Prove '..Said' where nothing that the law and all that it calls make is longer than what came in: it says more and counts as full. Else prove '..UptoSaid'. A law counts once. -/
mutual
def uptoBulk {H : Type} : DataW H → Nat
  | .lit (.string bytes) => bytes.length + 1
  | .lit _ => 1
  | .nil => 1
  | .ptr d => uptoBulk d + 1
  | .slice elems spare => uptoBulkAll elems + uptoBulkAll spare + 1
  | .agg parts => uptoBulkAll parts + 1
  | .iface _ d => uptoBulk d + 1
  | .map entries => uptoBulkEntries entries + 1
  | .held _ => 1
def uptoBulkAll {H : Type} : List (DataW H) → Nat
  | [] => 0
  | d :: r => uptoBulk d + uptoBulkAll r
def uptoBulkEntries {H : Type} : List (Lit × DataW H) → Nat
  | [] => 0
  | x :: r => uptoBulkEntry x + uptoBulkEntries r
def uptoBulkEntry {H : Type} : Lit × DataW H → Nat
  | (.string bytes, d) => bytes.length + uptoBulk d + 1
  | (_, d) => uptoBulk d + 1
 end
def uptoSmall : (H : Type) → List (DataW H) → Bool := fun _ ds => decide (uptoBulkAll ds ≤ 1048576)
def OpenSpec.upto (s : _root_.Go.ChangeSpec) : _root_.Go.OpenSpec := { _root_.Go.OpenSpec.ofChange s with cond := some uptoSmall }

/-- 'confluencelaw21.WalTorn', WHERE WHAT IT READS IS OF BULK AT MOST 1048576: true; the input reads as it did. -/
def walTornUptoRow : OpenClaim := { program := "ytlnjadnddldjeaa", sum := "099d337839964a70f72759d59d4b2c09ba4ac093f25444c17cc05598cfd62489", func := "confluence/confluencelaw21.WalTorn", spec := "walTorn", apart := false, narrowed := true }
def WalTornUptoSaid : Prop := walTornUptoRow.holds Try.pinned (OpenSpec.upto walTornSpec)

/-- 'confluencelaw21.WalNotes', WHERE WHAT IT READS IS OF BULK AT MOST 1048576: true; the input reads as it did. -/
def walNotesUptoRow : OpenClaim := { program := "ytlnjadnddldjeaa", sum := "099d337839964a70f72759d59d4b2c09ba4ac093f25444c17cc05598cfd62489", func := "confluence/confluencelaw21.WalNotes", spec := "walNotes", apart := false, narrowed := true }
def WalNotesUptoSaid : Prop := walNotesUptoRow.holds Try.pinned (OpenSpec.upto walNotesSpec)

/-- 'confluencelaw21.WalGoes', WHERE WHAT IT READS IS OF BULK AT MOST 1048576: true; the input reads as it did. -/
def walGoesUptoRow : OpenClaim := { program := "ytlnjadnddldjeaa", sum := "099d337839964a70f72759d59d4b2c09ba4ac093f25444c17cc05598cfd62489", func := "confluence/confluencelaw21.WalGoes", spec := "walGoes", apart := false, narrowed := true }
def WalGoesUptoSaid : Prop := walGoesUptoRow.holds Try.pinned (OpenSpec.upto walGoesSpec)

/-- 'confluencelaw21.WalNumbers', WHERE WHAT IT READS IS OF BULK AT MOST 1048576: true; the input reads as it did. -/
def walNumbersUptoRow : OpenClaim := { program := "ytlnjadnddldjeaa", sum := "099d337839964a70f72759d59d4b2c09ba4ac093f25444c17cc05598cfd62489", func := "confluence/confluencelaw21.WalNumbers", spec := "walNumbers", apart := false, narrowed := true }
def WalNumbersUptoSaid : Prop := walNumbersUptoRow.holds Try.pinned (OpenSpec.upto walNumbersSpec)

/-- 'confluencelaw21.WalSurvives', WHERE WHAT IT READS IS OF BULK AT MOST 1048576: true; the input reads as it did. -/
def walSurvivesUptoRow : OpenClaim := { program := "ytlnjadnddldjeaa", sum := "099d337839964a70f72759d59d4b2c09ba4ac093f25444c17cc05598cfd62489", func := "confluence/confluencelaw21.WalSurvives", spec := "walSurvives", apart := false, narrowed := true }
def WalSurvivesUptoSaid : Prop := walSurvivesUptoRow.holds Try.pinned (OpenSpec.upto walSurvivesSpec)

/-- 'confluencelaw21.WalBases', WHERE WHAT IT READS IS OF BULK AT MOST 1048576: true; the input reads as it did. -/
def walBasesUptoRow : OpenClaim := { program := "ytlnjadnddldjeaa", sum := "099d337839964a70f72759d59d4b2c09ba4ac093f25444c17cc05598cfd62489", func := "confluence/confluencelaw21.WalBases", spec := "walBases", apart := false, narrowed := true }
def WalBasesUptoSaid : Prop := walBasesUptoRow.holds Try.pinned (OpenSpec.upto walBasesSpec)

/-- 'confluencelaw21.WalPlays', WHERE WHAT IT READS IS OF BULK AT MOST 1048576: true; the input reads as it did. -/
def walPlaysUptoRow : OpenClaim := { program := "ytlnjadnddldjeaa", sum := "099d337839964a70f72759d59d4b2c09ba4ac093f25444c17cc05598cfd62489", func := "confluence/confluencelaw21.WalPlays", spec := "walPlays", apart := false, narrowed := true }
def WalPlaysUptoSaid : Prop := walPlaysUptoRow.holds Try.pinned (OpenSpec.upto walPlaysSpec)

end Rows
end Go.Proofs.Ytlnjadnddldjeaa
