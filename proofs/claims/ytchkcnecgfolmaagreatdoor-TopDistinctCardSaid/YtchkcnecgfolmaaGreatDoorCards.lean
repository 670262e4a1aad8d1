/-
  DERIVED. GIVEN WITH THE SEED: THE CARDS: each row of YtchkcnecgfolmaaGreatDoorRows.lean that lists a variable, with what it lists TIED to the program's text (the seventh form; the later family's looks); each row that meets fmt, with fmt's text TOLD by the authors' own Lean function (tested against real Go, not proved from fmt's source: count such statements apart). THE CARD IS WHAT COUNTS. Prove the row's statement (the work); the ties are given (YtchkcnecgfolmaaGreatDoorTie.lean); close each card by the builder's one call (the guide's Derived/Test/ToyasCard.lean, 'card_holds'). Laid BY PROGRAM, IN A SANDBOX (cutbox-door.mjs). By AI agents, Wed Nov 11 2026. No macro, syntax, notation, axiom, sorry.
-/
import Derived.Test.YtchkcnecgfolmaaGreatDoorRows
import GoSem.ClaimSeven
namespace Go.Proofs.YtchkcnecgfolmaaGreatDoor
namespace Rows

/-- THE TIED CARD OF 'confluencetop.TopOver'. -/
def topOverCard : Claim7 := { stood := { row := topOverRow, standIns := [], harness := (true, "d57ebac7075a23450241b13a0729af7965d1b3d7df7aaf8717db6b2b445667f2"), looks := true }, kinds := [], alts := [], laidByText := true, laidKinds := [.sentinel, .sentinel, .data, .data, .data], laidTests := true, laidLooks := .later }
def TopOverCardSaid : Prop := Claim7.holds Tryz.pinned (.plain (OpenSpec.ofChange topOverSpec)) topOverCard

/-- THE TIED CARD OF 'confluencetop.TopDistinct'. -/
def topDistinctCard : Claim7 := { stood := { row := topDistinctRow, standIns := [], harness := (true, "d57ebac7075a23450241b13a0729af7965d1b3d7df7aaf8717db6b2b445667f2"), looks := true }, kinds := [], alts := [], laidByText := true, laidKinds := [.sentinel, .sentinel, .data, .data, .data], laidTests := true, laidLooks := .later }
def TopDistinctCardSaid : Prop := Claim7.holds Tryz.pinned (.plain (OpenSpec.ofChange topDistinctSpec)) topDistinctCard

/-- THE SECOND FORM's CARD OF 'confluencetop.TopOver'. -/
def topOverUptoCard : Claim7 := { stood := { row := topOverUptoRow, standIns := [], harness := (true, "d57ebac7075a23450241b13a0729af7965d1b3d7df7aaf8717db6b2b445667f2"), looks := true }, kinds := [], alts := [], laidByText := true, laidKinds := [.sentinel, .sentinel, .data, .data, .data], laidTests := true, laidLooks := .later }
def TopOverUptoCardSaid : Prop := Claim7.holds Tryz.pinned (.plain (OpenSpec.upto topOverSpec)) topOverUptoCard

/-- THE SECOND FORM's CARD OF 'confluencetop.TopDistinct'. -/
def topDistinctUptoCard : Claim7 := { stood := { row := topDistinctUptoRow, standIns := [], harness := (true, "d57ebac7075a23450241b13a0729af7965d1b3d7df7aaf8717db6b2b445667f2"), looks := true }, kinds := [], alts := [], laidByText := true, laidKinds := [.sentinel, .sentinel, .data, .data, .data], laidTests := true, laidLooks := .later }
def TopDistinctUptoCardSaid : Prop := Claim7.holds Tryz.pinned (.plain (OpenSpec.upto topDistinctSpec)) topDistinctUptoCard
end Rows
end Go.Proofs.YtchkcnecgfolmaaGreatDoor
