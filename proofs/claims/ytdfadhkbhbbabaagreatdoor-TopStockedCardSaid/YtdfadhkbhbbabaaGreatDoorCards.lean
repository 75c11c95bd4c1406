/-
  DERIVED. GIVEN WITH THE SEED: THE CARDS: each row of YtdfadhkbhbbabaaGreatDoorRows.lean that lists a variable, with what it lists TIED to the program's text (the seventh form; the later family's looks); each row that meets fmt, with fmt's text TOLD by the authors' own Lean function (tested against real Go, not proved from fmt's source: count such statements apart). THE CARD IS WHAT COUNTS. Prove the row's statement (the work); the ties are given (YtdfadhkbhbbabaaGreatDoorTie.lean); close each card by the builder's one call (the guide's Derived/Test/ToyasCard.lean, 'card_holds'). Laid BY PROGRAM, IN A SANDBOX (cutbox-door.mjs). By AI agents, Wed Nov 11 2026. No macro, syntax, notation, axiom, sorry.
-/
import Derived.Test.YtdfadhkbhbbabaaGreatDoorRows
import GoSem.ClaimSeven
namespace Go.Proofs.YtdfadhkbhbbabaaGreatDoor
namespace Rows

/-- THE TIED CARD OF 'telecinetop.TopStocked'. -/
def topStockedCard : Claim7 := { stood := { row := topStockedRow, standIns := [], harness := (true, "af8923a8f1d4871aaab4fbbe0ea41bf6c844d034d3b32edb17be6a29c1072870"), looks := true }, kinds := [], alts := [], laidByText := true, laidKinds := [.data, .data, .data, .data, .sentinel, .sentinel, .pinned], laidTests := true, laidLooks := .later }
def TopStockedCardSaid : Prop := Claim7.holds Tryz.pinned (.plain (OpenSpec.ofChange topStockedSpec)) topStockedCard

/-- THE SECOND FORM's CARD OF 'telecinetop.TopStocked'. -/
def topStockedUptoCard : Claim7 := { stood := { row := topStockedUptoRow, standIns := [], harness := (true, "af8923a8f1d4871aaab4fbbe0ea41bf6c844d034d3b32edb17be6a29c1072870"), looks := true }, kinds := [], alts := [], laidByText := true, laidKinds := [.data, .data, .data, .data, .sentinel, .sentinel, .pinned], laidTests := true, laidLooks := .later }
def TopStockedUptoCardSaid : Prop := Claim7.holds Tryz.pinned (.plain (OpenSpec.upto topStockedSpec)) topStockedUptoCard
end Rows
end Go.Proofs.YtdfadhkbhbbabaaGreatDoor
