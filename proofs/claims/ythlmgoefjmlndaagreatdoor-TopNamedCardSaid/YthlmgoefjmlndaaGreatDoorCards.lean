/-
  DERIVED. GIVEN WITH THE SEED: THE CARDS: each row of YthlmgoefjmlndaaGreatDoorRows.lean that lists a variable, with what it lists TIED to the program's text (the seventh form; the later family's looks); each row that meets fmt, with fmt's text TOLD by the authors' own Lean function (tested against real Go, not proved from fmt's source: count such statements apart). THE CARD IS WHAT COUNTS. Prove the row's statement (the work); the ties are given (YthlmgoefjmlndaaGreatDoorTie.lean); close each card by the builder's one call (the guide's Derived/Test/ToyasCard.lean, 'card_holds'). Laid BY PROGRAM, IN A SANDBOX (cutbox-door.mjs). By AI agents, Wed Nov 11 2026. No macro, syntax, notation, axiom, sorry.
-/
import Derived.Test.YthlmgoefjmlndaaGreatDoorRows
import GoSem.ClaimSeven
namespace Go.Proofs.YthlmgoefjmlndaaGreatDoor
namespace Rows

/-- THE TIED CARD OF 'telecinelaw12.WorksChecks'. -/
def worksChecksCard : Claim7 := { stood := { row := worksChecksRow, standIns := [], harness := (true, "a82acb4701901cf7e4ea31c98f2f77a1c00f0b869ce2875ce4063ebf1004db68"), looks := true }, kinds := [], alts := [], laidByText := true, laidKinds := [.data, .data, .data, .data, .sentinel, .sentinel, .pinned], laidTests := true, laidLooks := .later }
def WorksChecksCardSaid : Prop := Claim7.holds Tryz.pinned (.plain (OpenSpec.ofChange worksChecksSpec)) worksChecksCard

/-- THE TIED CARD OF 'telecinelaw12.WorksStands'. -/
def worksStandsCard : Claim7 := { stood := { row := worksStandsRow, standIns := [], harness := (true, "a82acb4701901cf7e4ea31c98f2f77a1c00f0b869ce2875ce4063ebf1004db68"), looks := true }, kinds := [], alts := [], laidByText := true, laidKinds := [.data, .data, .data, .data, .sentinel, .sentinel, .pinned], laidTests := true, laidLooks := .later }
def WorksStandsCardSaid : Prop := Claim7.holds Tryz.pinned (.plain (OpenSpec.ofChange worksStandsSpec)) worksStandsCard

/-- THE TIED CARD OF 'telecinelaw12.WorksWorks'. -/
def worksWorksCard : Claim7 := { stood := { row := worksWorksRow, standIns := [], harness := (true, "a82acb4701901cf7e4ea31c98f2f77a1c00f0b869ce2875ce4063ebf1004db68"), looks := true }, kinds := [], alts := [], laidByText := true, laidKinds := [.data, .data, .data, .data, .sentinel, .sentinel, .pinned], laidTests := true, laidLooks := .later }
def WorksWorksCardSaid : Prop := Claim7.holds Tryz.pinned (.plain (OpenSpec.ofChange worksWorksSpec)) worksWorksCard

/-- THE TIED CARD OF 'telecinelaw12.WorksParted'. -/
def worksPartedCard : Claim7 := { stood := { row := worksPartedRow, standIns := [], harness := (true, "a82acb4701901cf7e4ea31c98f2f77a1c00f0b869ce2875ce4063ebf1004db68"), looks := true }, kinds := [], alts := [], laidByText := true, laidKinds := [.data, .data, .data, .data, .sentinel, .sentinel, .pinned], laidTests := true, laidLooks := .later }
def WorksPartedCardSaid : Prop := Claim7.holds Tryz.pinned (.plain (OpenSpec.ofChange worksPartedSpec)) worksPartedCard

/-- THE TIED CARD OF 'telecinelaw12.WorksDropped'. -/
def worksDroppedCard : Claim7 := { stood := { row := worksDroppedRow, standIns := [], harness := (true, "a82acb4701901cf7e4ea31c98f2f77a1c00f0b869ce2875ce4063ebf1004db68"), looks := true }, kinds := [], alts := [], laidByText := true, laidKinds := [.data, .data, .data, .data, .sentinel, .sentinel, .pinned], laidTests := true, laidLooks := .later }
def WorksDroppedCardSaid : Prop := Claim7.holds Tryz.pinned (.plain (OpenSpec.ofChange worksDroppedSpec)) worksDroppedCard

/-- THE TIED CARD OF 'telecinelaw12.WorksForeign'. -/
def worksForeignCard : Claim7 := { stood := { row := worksForeignRow, standIns := [], harness := (true, "a82acb4701901cf7e4ea31c98f2f77a1c00f0b869ce2875ce4063ebf1004db68"), looks := true }, kinds := [], alts := [], laidByText := true, laidKinds := [.data, .data, .data, .data, .sentinel, .sentinel, .pinned], laidTests := true, laidLooks := .later }
def WorksForeignCardSaid : Prop := Claim7.holds Tryz.pinned (.plain (OpenSpec.ofChange worksForeignSpec)) worksForeignCard

/-- THE TIED CARD OF 'telecinelaw12.WorksSames'. -/
def worksSamesCard : Claim7 := { stood := { row := worksSamesRow, standIns := [], harness := (true, "a82acb4701901cf7e4ea31c98f2f77a1c00f0b869ce2875ce4063ebf1004db68"), looks := true }, kinds := [], alts := [], laidByText := true, laidKinds := [.data, .data, .data, .data, .sentinel, .sentinel, .pinned], laidTests := true, laidLooks := .later }
def WorksSamesCardSaid : Prop := Claim7.holds Tryz.pinned (.plain (OpenSpec.ofChange worksSamesSpec)) worksSamesCard

/-- THE TIED CARD OF 'telecinelaw12.WorksProved'. -/
def worksProvedCard : Claim7 := { stood := { row := worksProvedRow, standIns := [], harness := (true, "a82acb4701901cf7e4ea31c98f2f77a1c00f0b869ce2875ce4063ebf1004db68"), looks := true }, kinds := [], alts := [], laidByText := true, laidKinds := [.data, .data, .data, .data, .sentinel, .sentinel, .pinned], laidTests := true, laidLooks := .later }
def WorksProvedCardSaid : Prop := Claim7.holds Tryz.pinned (.plain (OpenSpec.ofChange worksProvedSpec)) worksProvedCard

/-- THE TIED CARD OF 'telecinelaw12.WorksMore'. -/
def worksMoreCard : Claim7 := { stood := { row := worksMoreRow, standIns := [], harness := (true, "a82acb4701901cf7e4ea31c98f2f77a1c00f0b869ce2875ce4063ebf1004db68"), looks := true }, kinds := [], alts := [], laidByText := true, laidKinds := [.data, .data, .data, .data, .sentinel, .sentinel, .pinned], laidTests := true, laidLooks := .later }
def WorksMoreCardSaid : Prop := Claim7.holds Tryz.pinned (.plain (OpenSpec.ofChange worksMoreSpec)) worksMoreCard

/-- THE TIED CARD OF 'telecinelaw12.WorksPlace'. -/
def worksPlaceCard : Claim7 := { stood := { row := worksPlaceRow, standIns := [], harness := (true, "a82acb4701901cf7e4ea31c98f2f77a1c00f0b869ce2875ce4063ebf1004db68"), looks := true }, kinds := [], alts := [], laidByText := true, laidKinds := [.data, .data, .data, .data, .sentinel, .sentinel, .pinned], laidTests := true, laidLooks := .later }
def WorksPlaceCardSaid : Prop := Claim7.holds Tryz.pinned (.plain (OpenSpec.ofChange worksPlaceSpec)) worksPlaceCard

/-- THE TIED CARD OF 'telecinelaw12.WorksWheres'. -/
def worksWheresCard : Claim7 := { stood := { row := worksWheresRow, standIns := [], harness := (true, "a82acb4701901cf7e4ea31c98f2f77a1c00f0b869ce2875ce4063ebf1004db68"), looks := true }, kinds := [], alts := [], laidByText := true, laidKinds := [.data, .data, .data, .data, .sentinel, .sentinel, .pinned], laidTests := true, laidLooks := .later }
def WorksWheresCardSaid : Prop := Claim7.holds Tryz.pinned (.plain (OpenSpec.ofChange worksWheresSpec)) worksWheresCard

/-- THE TIED CARD OF 'telecinelaw12.WorksMerges'. -/
def worksMergesCard : Claim7 := { stood := { row := worksMergesRow, standIns := [], harness := (true, "a82acb4701901cf7e4ea31c98f2f77a1c00f0b869ce2875ce4063ebf1004db68"), looks := true }, kinds := [], alts := [], laidByText := true, laidKinds := [.data, .data, .data, .data, .sentinel, .sentinel, .pinned], laidTests := true, laidLooks := .later }
def WorksMergesCardSaid : Prop := Claim7.holds Tryz.pinned (.plain (OpenSpec.ofChange worksMergesSpec)) worksMergesCard

/-- THE TIED CARD OF 'telecinelaw12.WorksOne'. -/
def worksOneCard : Claim7 := { stood := { row := worksOneRow, standIns := [], harness := (true, "a82acb4701901cf7e4ea31c98f2f77a1c00f0b869ce2875ce4063ebf1004db68"), looks := true }, kinds := [], alts := [], laidByText := true, laidKinds := [.data, .data, .data, .data, .sentinel, .sentinel, .pinned], laidTests := true, laidLooks := .later }
def WorksOneCardSaid : Prop := Claim7.holds Tryz.pinned (.plain (OpenSpec.ofChange worksOneSpec)) worksOneCard

/-- THE TIED CARD OF 'telecinelaw12.WorksKnown'. -/
def worksKnownCard : Claim7 := { stood := { row := worksKnownRow, standIns := [], harness := (true, "a82acb4701901cf7e4ea31c98f2f77a1c00f0b869ce2875ce4063ebf1004db68"), looks := true }, kinds := [], alts := [], laidByText := true, laidKinds := [.data, .data, .data, .data, .sentinel, .sentinel, .pinned], laidTests := true, laidLooks := .later }
def WorksKnownCardSaid : Prop := Claim7.holds Tryz.pinned (.plain (OpenSpec.ofChange worksKnownSpec)) worksKnownCard

/-- THE TIED CARD OF 'telecinetop.TopNamed'. -/
def topNamedCard : Claim7 := { stood := { row := topNamedRow, standIns := [], harness := (true, "a82acb4701901cf7e4ea31c98f2f77a1c00f0b869ce2875ce4063ebf1004db68"), looks := true }, kinds := [], alts := [], laidByText := true, laidKinds := [.data, .data, .data, .data, .sentinel, .sentinel, .pinned], laidTests := true, laidLooks := .later }
def TopNamedCardSaid : Prop := Claim7.holds Tryz.pinned (.plain (OpenSpec.ofChange topNamedSpec)) topNamedCard

/-- THE TIED CARD OF 'telecinetop.TopStocked'. -/
def topStockedCard : Claim7 := { stood := { row := topStockedRow, standIns := [], harness := (true, "a82acb4701901cf7e4ea31c98f2f77a1c00f0b869ce2875ce4063ebf1004db68"), looks := true }, kinds := [], alts := [], laidByText := true, laidKinds := [.data, .data, .data, .data, .sentinel, .sentinel, .pinned], laidTests := true, laidLooks := .later }
def TopStockedCardSaid : Prop := Claim7.holds Tryz.pinned (.plain (OpenSpec.ofChange topStockedSpec)) topStockedCard

/-- THE SECOND FORM's CARD OF 'telecinelaw12.WorksChecks'. -/
def worksChecksUptoCard : Claim7 := { stood := { row := worksChecksUptoRow, standIns := [], harness := (true, "a82acb4701901cf7e4ea31c98f2f77a1c00f0b869ce2875ce4063ebf1004db68"), looks := true }, kinds := [], alts := [], laidByText := true, laidKinds := [.data, .data, .data, .data, .sentinel, .sentinel, .pinned], laidTests := true, laidLooks := .later }
def WorksChecksUptoCardSaid : Prop := Claim7.holds Tryz.pinned (.plain (OpenSpec.upto worksChecksSpec)) worksChecksUptoCard

/-- THE SECOND FORM's CARD OF 'telecinelaw12.WorksStands'. -/
def worksStandsUptoCard : Claim7 := { stood := { row := worksStandsUptoRow, standIns := [], harness := (true, "a82acb4701901cf7e4ea31c98f2f77a1c00f0b869ce2875ce4063ebf1004db68"), looks := true }, kinds := [], alts := [], laidByText := true, laidKinds := [.data, .data, .data, .data, .sentinel, .sentinel, .pinned], laidTests := true, laidLooks := .later }
def WorksStandsUptoCardSaid : Prop := Claim7.holds Tryz.pinned (.plain (OpenSpec.upto worksStandsSpec)) worksStandsUptoCard

/-- THE SECOND FORM's CARD OF 'telecinelaw12.WorksWorks'. -/
def worksWorksUptoCard : Claim7 := { stood := { row := worksWorksUptoRow, standIns := [], harness := (true, "a82acb4701901cf7e4ea31c98f2f77a1c00f0b869ce2875ce4063ebf1004db68"), looks := true }, kinds := [], alts := [], laidByText := true, laidKinds := [.data, .data, .data, .data, .sentinel, .sentinel, .pinned], laidTests := true, laidLooks := .later }
def WorksWorksUptoCardSaid : Prop := Claim7.holds Tryz.pinned (.plain (OpenSpec.upto worksWorksSpec)) worksWorksUptoCard

/-- THE SECOND FORM's CARD OF 'telecinelaw12.WorksParted'. -/
def worksPartedUptoCard : Claim7 := { stood := { row := worksPartedUptoRow, standIns := [], harness := (true, "a82acb4701901cf7e4ea31c98f2f77a1c00f0b869ce2875ce4063ebf1004db68"), looks := true }, kinds := [], alts := [], laidByText := true, laidKinds := [.data, .data, .data, .data, .sentinel, .sentinel, .pinned], laidTests := true, laidLooks := .later }
def WorksPartedUptoCardSaid : Prop := Claim7.holds Tryz.pinned (.plain (OpenSpec.upto worksPartedSpec)) worksPartedUptoCard

/-- THE SECOND FORM's CARD OF 'telecinelaw12.WorksDropped'. -/
def worksDroppedUptoCard : Claim7 := { stood := { row := worksDroppedUptoRow, standIns := [], harness := (true, "a82acb4701901cf7e4ea31c98f2f77a1c00f0b869ce2875ce4063ebf1004db68"), looks := true }, kinds := [], alts := [], laidByText := true, laidKinds := [.data, .data, .data, .data, .sentinel, .sentinel, .pinned], laidTests := true, laidLooks := .later }
def WorksDroppedUptoCardSaid : Prop := Claim7.holds Tryz.pinned (.plain (OpenSpec.upto worksDroppedSpec)) worksDroppedUptoCard

/-- THE SECOND FORM's CARD OF 'telecinelaw12.WorksForeign'. -/
def worksForeignUptoCard : Claim7 := { stood := { row := worksForeignUptoRow, standIns := [], harness := (true, "a82acb4701901cf7e4ea31c98f2f77a1c00f0b869ce2875ce4063ebf1004db68"), looks := true }, kinds := [], alts := [], laidByText := true, laidKinds := [.data, .data, .data, .data, .sentinel, .sentinel, .pinned], laidTests := true, laidLooks := .later }
def WorksForeignUptoCardSaid : Prop := Claim7.holds Tryz.pinned (.plain (OpenSpec.upto worksForeignSpec)) worksForeignUptoCard

/-- THE SECOND FORM's CARD OF 'telecinelaw12.WorksSames'. -/
def worksSamesUptoCard : Claim7 := { stood := { row := worksSamesUptoRow, standIns := [], harness := (true, "a82acb4701901cf7e4ea31c98f2f77a1c00f0b869ce2875ce4063ebf1004db68"), looks := true }, kinds := [], alts := [], laidByText := true, laidKinds := [.data, .data, .data, .data, .sentinel, .sentinel, .pinned], laidTests := true, laidLooks := .later }
def WorksSamesUptoCardSaid : Prop := Claim7.holds Tryz.pinned (.plain (OpenSpec.upto worksSamesSpec)) worksSamesUptoCard

/-- THE SECOND FORM's CARD OF 'telecinelaw12.WorksProved'. -/
def worksProvedUptoCard : Claim7 := { stood := { row := worksProvedUptoRow, standIns := [], harness := (true, "a82acb4701901cf7e4ea31c98f2f77a1c00f0b869ce2875ce4063ebf1004db68"), looks := true }, kinds := [], alts := [], laidByText := true, laidKinds := [.data, .data, .data, .data, .sentinel, .sentinel, .pinned], laidTests := true, laidLooks := .later }
def WorksProvedUptoCardSaid : Prop := Claim7.holds Tryz.pinned (.plain (OpenSpec.upto worksProvedSpec)) worksProvedUptoCard

/-- THE SECOND FORM's CARD OF 'telecinelaw12.WorksMore'. -/
def worksMoreUptoCard : Claim7 := { stood := { row := worksMoreUptoRow, standIns := [], harness := (true, "a82acb4701901cf7e4ea31c98f2f77a1c00f0b869ce2875ce4063ebf1004db68"), looks := true }, kinds := [], alts := [], laidByText := true, laidKinds := [.data, .data, .data, .data, .sentinel, .sentinel, .pinned], laidTests := true, laidLooks := .later }
def WorksMoreUptoCardSaid : Prop := Claim7.holds Tryz.pinned (.plain (OpenSpec.upto worksMoreSpec)) worksMoreUptoCard

/-- THE SECOND FORM's CARD OF 'telecinelaw12.WorksPlace'. -/
def worksPlaceUptoCard : Claim7 := { stood := { row := worksPlaceUptoRow, standIns := [], harness := (true, "a82acb4701901cf7e4ea31c98f2f77a1c00f0b869ce2875ce4063ebf1004db68"), looks := true }, kinds := [], alts := [], laidByText := true, laidKinds := [.data, .data, .data, .data, .sentinel, .sentinel, .pinned], laidTests := true, laidLooks := .later }
def WorksPlaceUptoCardSaid : Prop := Claim7.holds Tryz.pinned (.plain (OpenSpec.upto worksPlaceSpec)) worksPlaceUptoCard

/-- THE SECOND FORM's CARD OF 'telecinelaw12.WorksWheres'. -/
def worksWheresUptoCard : Claim7 := { stood := { row := worksWheresUptoRow, standIns := [], harness := (true, "a82acb4701901cf7e4ea31c98f2f77a1c00f0b869ce2875ce4063ebf1004db68"), looks := true }, kinds := [], alts := [], laidByText := true, laidKinds := [.data, .data, .data, .data, .sentinel, .sentinel, .pinned], laidTests := true, laidLooks := .later }
def WorksWheresUptoCardSaid : Prop := Claim7.holds Tryz.pinned (.plain (OpenSpec.upto worksWheresSpec)) worksWheresUptoCard

/-- THE SECOND FORM's CARD OF 'telecinelaw12.WorksMerges'. -/
def worksMergesUptoCard : Claim7 := { stood := { row := worksMergesUptoRow, standIns := [], harness := (true, "a82acb4701901cf7e4ea31c98f2f77a1c00f0b869ce2875ce4063ebf1004db68"), looks := true }, kinds := [], alts := [], laidByText := true, laidKinds := [.data, .data, .data, .data, .sentinel, .sentinel, .pinned], laidTests := true, laidLooks := .later }
def WorksMergesUptoCardSaid : Prop := Claim7.holds Tryz.pinned (.plain (OpenSpec.upto worksMergesSpec)) worksMergesUptoCard

/-- THE SECOND FORM's CARD OF 'telecinelaw12.WorksOne'. -/
def worksOneUptoCard : Claim7 := { stood := { row := worksOneUptoRow, standIns := [], harness := (true, "a82acb4701901cf7e4ea31c98f2f77a1c00f0b869ce2875ce4063ebf1004db68"), looks := true }, kinds := [], alts := [], laidByText := true, laidKinds := [.data, .data, .data, .data, .sentinel, .sentinel, .pinned], laidTests := true, laidLooks := .later }
def WorksOneUptoCardSaid : Prop := Claim7.holds Tryz.pinned (.plain (OpenSpec.upto worksOneSpec)) worksOneUptoCard

/-- THE SECOND FORM's CARD OF 'telecinelaw12.WorksKnown'. -/
def worksKnownUptoCard : Claim7 := { stood := { row := worksKnownUptoRow, standIns := [], harness := (true, "a82acb4701901cf7e4ea31c98f2f77a1c00f0b869ce2875ce4063ebf1004db68"), looks := true }, kinds := [], alts := [], laidByText := true, laidKinds := [.data, .data, .data, .data, .sentinel, .sentinel, .pinned], laidTests := true, laidLooks := .later }
def WorksKnownUptoCardSaid : Prop := Claim7.holds Tryz.pinned (.plain (OpenSpec.upto worksKnownSpec)) worksKnownUptoCard

/-- THE SECOND FORM's CARD OF 'telecinetop.TopNamed'. -/
def topNamedUptoCard : Claim7 := { stood := { row := topNamedUptoRow, standIns := [], harness := (true, "a82acb4701901cf7e4ea31c98f2f77a1c00f0b869ce2875ce4063ebf1004db68"), looks := true }, kinds := [], alts := [], laidByText := true, laidKinds := [.data, .data, .data, .data, .sentinel, .sentinel, .pinned], laidTests := true, laidLooks := .later }
def TopNamedUptoCardSaid : Prop := Claim7.holds Tryz.pinned (.plain (OpenSpec.upto topNamedSpec)) topNamedUptoCard

/-- THE SECOND FORM's CARD OF 'telecinetop.TopStocked'. -/
def topStockedUptoCard : Claim7 := { stood := { row := topStockedUptoRow, standIns := [], harness := (true, "a82acb4701901cf7e4ea31c98f2f77a1c00f0b869ce2875ce4063ebf1004db68"), looks := true }, kinds := [], alts := [], laidByText := true, laidKinds := [.data, .data, .data, .data, .sentinel, .sentinel, .pinned], laidTests := true, laidLooks := .later }
def TopStockedUptoCardSaid : Prop := Claim7.holds Tryz.pinned (.plain (OpenSpec.upto topStockedSpec)) topStockedUptoCard
end Rows
end Go.Proofs.YthlmgoefjmlndaaGreatDoor
