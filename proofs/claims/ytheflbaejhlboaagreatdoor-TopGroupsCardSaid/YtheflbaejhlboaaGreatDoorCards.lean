/-
  DERIVED. GIVEN WITH THE SEED: THE CARDS: each row of YtheflbaejhlboaaGreatDoorRows.lean that lists a variable, with what it lists TIED to the program's text (the seventh form; the later family's looks); each row that meets fmt, with fmt's text TOLD by the authors' own Lean function (tested against real Go, not proved from fmt's source: count such statements apart). THE CARD IS WHAT COUNTS. Prove the row's statement (the work); the ties are given (YtheflbaejhlboaaGreatDoorTie.lean); close each card by the builder's one call (the guide's Derived/Test/ToyasCard.lean, 'card_holds'). Laid BY PROGRAM, IN A SANDBOX (cutbox-door.mjs). By AI agents, Wed Nov 11 2026. No macro, syntax, notation, axiom, sorry.
-/
import Derived.Test.YtheflbaejhlboaaGreatDoorRows
import GoSem.ClaimSeven
namespace Go.Proofs.YtheflbaejhlboaaGreatDoor
namespace Rows

/-- THE TIED CARD OF 'confluencetop.TopOver'. -/
def topOverCard : Claim7 := { stood := { row := topOverRow, standIns := [], harness := (true, "b74a03b96547bcd5c1bca2e8e24647209e9cd37ba26cc43c05b552e96a11e4fd"), looks := true }, kinds := [], alts := [], laidByText := true, laidKinds := [.sentinel, .sentinel, .data, .data, .data], laidTests := true, laidLooks := .later }
def TopOverCardSaid : Prop := Claim7.holds Tryz.pinned (.plain (OpenSpec.ofChange topOverSpec)) topOverCard

/-- THE TIED CARD OF 'confluencetop.TopDistinct'. -/
def topDistinctCard : Claim7 := { stood := { row := topDistinctRow, standIns := [], harness := (true, "b74a03b96547bcd5c1bca2e8e24647209e9cd37ba26cc43c05b552e96a11e4fd"), looks := true }, kinds := [], alts := [], laidByText := true, laidKinds := [.sentinel, .sentinel, .data, .data, .data], laidTests := true, laidLooks := .later }
def TopDistinctCardSaid : Prop := Claim7.holds Tryz.pinned (.plain (OpenSpec.ofChange topDistinctSpec)) topDistinctCard

/-- THE TIED CARD OF 'confluencetop.TopGroups'. -/
def topGroupsCard : Claim7 := { stood := { row := topGroupsRow, standIns := [], harness := (true, "b74a03b96547bcd5c1bca2e8e24647209e9cd37ba26cc43c05b552e96a11e4fd"), looks := true }, kinds := [], alts := [], laidByText := true, laidKinds := [.sentinel, .sentinel, .data, .data, .data], laidTests := true, laidLooks := .later }
def TopGroupsCardSaid : Prop := Claim7.holds Tryz.pinned (.plain (OpenSpec.ofChange topGroupsSpec)) topGroupsCard

/-- THE TIED CARD OF 'confluencetop.TopTexts'. -/
def topTextsCard : Claim7 := { stood := { row := topTextsRow, standIns := [], harness := (true, "b74a03b96547bcd5c1bca2e8e24647209e9cd37ba26cc43c05b552e96a11e4fd"), looks := true }, kinds := [], alts := [], laidByText := true, laidKinds := [.sentinel, .sentinel, .data, .data, .data], laidTests := true, laidLooks := .later }
def TopTextsCardSaid : Prop := Claim7.holds Tryz.pinned (.plain (OpenSpec.ofChange topTextsSpec)) topTextsCard

/-- THE TIED CARD OF 'confluencetop.TopNested'. -/
def topNestedCard : Claim7 := { stood := { row := topNestedRow, standIns := [], harness := (true, "b74a03b96547bcd5c1bca2e8e24647209e9cd37ba26cc43c05b552e96a11e4fd"), looks := true }, kinds := [], alts := [], laidByText := true, laidKinds := [.sentinel, .sentinel, .data, .data, .data], laidTests := true, laidLooks := .later }
def TopNestedCardSaid : Prop := Claim7.holds Tryz.pinned (.plain (OpenSpec.ofChange topNestedSpec)) topNestedCard

/-- THE TIED CARD OF 'confluencetop.TopUnions'. -/
def topUnionsCard : Claim7 := { stood := { row := topUnionsRow, standIns := [], harness := (true, "b74a03b96547bcd5c1bca2e8e24647209e9cd37ba26cc43c05b552e96a11e4fd"), looks := true }, kinds := [], alts := [], laidByText := true, laidKinds := [.sentinel, .sentinel, .data, .data, .data], laidTests := true, laidLooks := .later }
def TopUnionsCardSaid : Prop := Claim7.holds Tryz.pinned (.plain (OpenSpec.ofChange topUnionsSpec)) topUnionsCard

/-- THE SECOND FORM's CARD OF 'confluencetop.TopOver'. -/
def topOverUptoCard : Claim7 := { stood := { row := topOverUptoRow, standIns := [], harness := (true, "b74a03b96547bcd5c1bca2e8e24647209e9cd37ba26cc43c05b552e96a11e4fd"), looks := true }, kinds := [], alts := [], laidByText := true, laidKinds := [.sentinel, .sentinel, .data, .data, .data], laidTests := true, laidLooks := .later }
def TopOverUptoCardSaid : Prop := Claim7.holds Tryz.pinned (.plain (OpenSpec.upto topOverSpec)) topOverUptoCard

/-- THE SECOND FORM's CARD OF 'confluencetop.TopDistinct'. -/
def topDistinctUptoCard : Claim7 := { stood := { row := topDistinctUptoRow, standIns := [], harness := (true, "b74a03b96547bcd5c1bca2e8e24647209e9cd37ba26cc43c05b552e96a11e4fd"), looks := true }, kinds := [], alts := [], laidByText := true, laidKinds := [.sentinel, .sentinel, .data, .data, .data], laidTests := true, laidLooks := .later }
def TopDistinctUptoCardSaid : Prop := Claim7.holds Tryz.pinned (.plain (OpenSpec.upto topDistinctSpec)) topDistinctUptoCard

/-- THE SECOND FORM's CARD OF 'confluencetop.TopGroups'. -/
def topGroupsUptoCard : Claim7 := { stood := { row := topGroupsUptoRow, standIns := [], harness := (true, "b74a03b96547bcd5c1bca2e8e24647209e9cd37ba26cc43c05b552e96a11e4fd"), looks := true }, kinds := [], alts := [], laidByText := true, laidKinds := [.sentinel, .sentinel, .data, .data, .data], laidTests := true, laidLooks := .later }
def TopGroupsUptoCardSaid : Prop := Claim7.holds Tryz.pinned (.plain (OpenSpec.upto topGroupsSpec)) topGroupsUptoCard

/-- THE SECOND FORM's CARD OF 'confluencetop.TopTexts'. -/
def topTextsUptoCard : Claim7 := { stood := { row := topTextsUptoRow, standIns := [], harness := (true, "b74a03b96547bcd5c1bca2e8e24647209e9cd37ba26cc43c05b552e96a11e4fd"), looks := true }, kinds := [], alts := [], laidByText := true, laidKinds := [.sentinel, .sentinel, .data, .data, .data], laidTests := true, laidLooks := .later }
def TopTextsUptoCardSaid : Prop := Claim7.holds Tryz.pinned (.plain (OpenSpec.upto topTextsSpec)) topTextsUptoCard

/-- THE SECOND FORM's CARD OF 'confluencetop.TopNested'. -/
def topNestedUptoCard : Claim7 := { stood := { row := topNestedUptoRow, standIns := [], harness := (true, "b74a03b96547bcd5c1bca2e8e24647209e9cd37ba26cc43c05b552e96a11e4fd"), looks := true }, kinds := [], alts := [], laidByText := true, laidKinds := [.sentinel, .sentinel, .data, .data, .data], laidTests := true, laidLooks := .later }
def TopNestedUptoCardSaid : Prop := Claim7.holds Tryz.pinned (.plain (OpenSpec.upto topNestedSpec)) topNestedUptoCard

/-- THE SECOND FORM's CARD OF 'confluencetop.TopUnions'. -/
def topUnionsUptoCard : Claim7 := { stood := { row := topUnionsUptoRow, standIns := [], harness := (true, "b74a03b96547bcd5c1bca2e8e24647209e9cd37ba26cc43c05b552e96a11e4fd"), looks := true }, kinds := [], alts := [], laidByText := true, laidKinds := [.sentinel, .sentinel, .data, .data, .data], laidTests := true, laidLooks := .later }
def TopUnionsUptoCardSaid : Prop := Claim7.holds Tryz.pinned (.plain (OpenSpec.upto topUnionsSpec)) topUnionsUptoCard
end Rows
end Go.Proofs.YtheflbaejhlboaaGreatDoor
