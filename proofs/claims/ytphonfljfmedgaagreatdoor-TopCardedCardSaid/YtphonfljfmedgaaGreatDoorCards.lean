/-
  DERIVED. GIVEN WITH THE SEED: THE CARDS: each row of YtphonfljfmedgaaGreatDoorRows.lean that lists a variable, with what it lists TIED to the program's text (the seventh form; the later family's looks); each row that meets fmt, with fmt's text TOLD by the authors' own Lean function (tested against real Go, not proved from fmt's source: count such statements apart). THE CARD IS WHAT COUNTS. Prove the row's statement (the work); the ties are given (YtphonfljfmedgaaGreatDoorTie.lean); close each card by the builder's one call (the guide's Derived/Test/ToyasCard.lean, 'card_holds'). Laid BY PROGRAM, IN A SANDBOX (cutbox-door.mjs). By AI agents, Wed Nov 11 2026. No macro, syntax, notation, axiom, sorry.
-/
import Derived.Test.YtphonfljfmedgaaGreatDoorRows
import GoSem.ClaimSeven
namespace Go.Proofs.YtphonfljfmedgaaGreatDoor
namespace Rows

/-- THE TIED CARD OF 'telecinetop.TopCarded'. -/
def topCardedCard : Claim7 := { stood := { row := topCardedRow, standIns := [], harness := (true, "22055ed95b476fb4e25b2d477cd5891a0b3fe60ff834cfacc19825c1fb9394bb"), looks := true }, kinds := [], alts := [], laidByText := true, laidKinds := [.data, .data, .data, .data, .sentinel, .sentinel, .listed, .data, .pinned], laidTests := true, laidLooks := .later }
def TopCardedCardSaid : Prop := Claim7.holds Tryz.pinned (.plain (OpenSpec.ofChange topCardedSpec)) topCardedCard

/-- THE SECOND FORM's CARD OF 'telecinetop.TopCarded'. -/
def topCardedUptoCard : Claim7 := { stood := { row := topCardedUptoRow, standIns := [], harness := (true, "22055ed95b476fb4e25b2d477cd5891a0b3fe60ff834cfacc19825c1fb9394bb"), looks := true }, kinds := [], alts := [], laidByText := true, laidKinds := [.data, .data, .data, .data, .sentinel, .sentinel, .listed, .data, .pinned], laidTests := true, laidLooks := .later }
def TopCardedUptoCardSaid : Prop := Claim7.holds Tryz.pinned (.plain (OpenSpec.upto topCardedSpec)) topCardedUptoCard
end Rows
end Go.Proofs.YtphonfljfmedgaaGreatDoor
