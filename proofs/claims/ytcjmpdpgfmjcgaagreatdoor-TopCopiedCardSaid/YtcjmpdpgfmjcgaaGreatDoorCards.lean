/-
  DERIVED. GIVEN WITH THE SEED: THE CARDS: each row of YtcjmpdpgfmjcgaaGreatDoorRows.lean that lists a variable, with what it lists TIED to the program's text (the seventh form; the later family's looks); each row that meets fmt, with fmt's text TOLD by the authors' own Lean function (tested against real Go, not proved from fmt's source: count such statements apart). THE CARD IS WHAT COUNTS. Prove the row's statement (the work); the ties are given (YtcjmpdpgfmjcgaaGreatDoorTie.lean); close each card by the builder's one call (the guide's Derived/Test/ToyasCard.lean, 'card_holds'). Laid BY PROGRAM, IN A SANDBOX (cutbox-door.mjs). By AI agents, Wed Nov 11 2026. No macro, syntax, notation, axiom, sorry.
-/
import Derived.Test.YtcjmpdpgfmjcgaaGreatDoorRows
import GoSem.ClaimSeven
namespace Go.Proofs.YtcjmpdpgfmjcgaaGreatDoor
namespace Rows

/-- THE TIED CARD OF 'telecinelaw04.RescueChecks'. -/
def rescueChecksCard : Claim7 := { stood := { row := rescueChecksRow, standIns := [], harness := (true, "3ecf30f6fcb6b327603aead051cca7290766c8fc243b3bf4be531ddac3124e00"), looks := true }, kinds := [], alts := [], laidByText := true, laidKinds := [.data, .pinned], laidTests := true, laidLooks := .later }
def RescueChecksCardSaid : Prop := Claim7.holds Tryz.pinned (.plain (OpenSpec.ofChange rescueChecksSpec)) rescueChecksCard

/-- THE TIED CARD OF 'telecinelaw04.RescueFits'. -/
def rescueFitsCard : Claim7 := { stood := { row := rescueFitsRow, standIns := [], harness := (true, "3ecf30f6fcb6b327603aead051cca7290766c8fc243b3bf4be531ddac3124e00"), looks := true }, kinds := [], alts := [], laidByText := true, laidKinds := [.data, .pinned], laidTests := true, laidLooks := .later }
def RescueFitsCardSaid : Prop := Claim7.holds Tryz.pinned (.plain (OpenSpec.ofChange rescueFitsSpec)) rescueFitsCard

/-- THE TIED CARD OF 'telecinelaw04.RescuePlans'. -/
def rescuePlansCard : Claim7 := { stood := { row := rescuePlansRow, standIns := [], harness := (true, "3ecf30f6fcb6b327603aead051cca7290766c8fc243b3bf4be531ddac3124e00"), looks := true }, kinds := [], alts := [], laidByText := true, laidKinds := [.data, .pinned], laidTests := true, laidLooks := .later }
def RescuePlansCardSaid : Prop := Claim7.holds Tryz.pinned (.plain (OpenSpec.ofChange rescuePlansSpec)) rescuePlansCard

/-- THE TIED CARD OF 'telecinelaw04.RescueJudges'. -/
def rescueJudgesCard : Claim7 := { stood := { row := rescueJudgesRow, standIns := [], harness := (true, "3ecf30f6fcb6b327603aead051cca7290766c8fc243b3bf4be531ddac3124e00"), looks := true }, kinds := [], alts := [], laidByText := true, laidKinds := [.data, .pinned], laidTests := true, laidLooks := .later }
def RescueJudgesCardSaid : Prop := Claim7.holds Tryz.pinned (.plain (OpenSpec.ofChange rescueJudgesSpec)) rescueJudgesCard

/-- THE TIED CARD OF 'telecinelaw04.RescueDues'. -/
def rescueDuesCard : Claim7 := { stood := { row := rescueDuesRow, standIns := [], harness := (true, "3ecf30f6fcb6b327603aead051cca7290766c8fc243b3bf4be531ddac3124e00"), looks := true }, kinds := [], alts := [], laidByText := true, laidKinds := [.data, .pinned], laidTests := true, laidLooks := .later }
def RescueDuesCardSaid : Prop := Claim7.holds Tryz.pinned (.plain (OpenSpec.ofChange rescueDuesSpec)) rescueDuesCard

/-- THE TIED CARD OF 'telecinelaw04.RescueBest'. -/
def rescueBestCard : Claim7 := { stood := { row := rescueBestRow, standIns := [], harness := (true, "3ecf30f6fcb6b327603aead051cca7290766c8fc243b3bf4be531ddac3124e00"), looks := true }, kinds := [], alts := [], laidByText := true, laidKinds := [.data, .pinned], laidTests := true, laidLooks := .later }
def RescueBestCardSaid : Prop := Claim7.holds Tryz.pinned (.plain (OpenSpec.ofChange rescueBestSpec)) rescueBestCard

/-- THE TIED CARD OF 'telecinelaw04.RescueProves'. -/
def rescueProvesCard : Claim7 := { stood := { row := rescueProvesRow, standIns := [], harness := (true, "3ecf30f6fcb6b327603aead051cca7290766c8fc243b3bf4be531ddac3124e00"), looks := true }, kinds := [], alts := [], laidByText := true, laidKinds := [.data, .pinned], laidTests := true, laidLooks := .later }
def RescueProvesCardSaid : Prop := Claim7.holds Tryz.pinned (.plain (OpenSpec.ofChange rescueProvesSpec)) rescueProvesCard

/-- THE TIED CARD OF 'telecinelaw04.RescuePlaces'. -/
def rescuePlacesCard : Claim7 := { stood := { row := rescuePlacesRow, standIns := [], harness := (true, "3ecf30f6fcb6b327603aead051cca7290766c8fc243b3bf4be531ddac3124e00"), looks := true }, kinds := [], alts := [], laidByText := true, laidKinds := [.data, .pinned], laidTests := true, laidLooks := .later }
def RescuePlacesCardSaid : Prop := Claim7.holds Tryz.pinned (.plain (OpenSpec.ofChange rescuePlacesSpec)) rescuePlacesCard

/-- THE TIED CARD OF 'telecinelaw04.RescueHall'. -/
def rescueHallCard : Claim7 := { stood := { row := rescueHallRow, standIns := [], harness := (true, "3ecf30f6fcb6b327603aead051cca7290766c8fc243b3bf4be531ddac3124e00"), looks := true }, kinds := [], alts := [], laidByText := true, laidKinds := [.data, .pinned], laidTests := true, laidLooks := .later }
def RescueHallCardSaid : Prop := Claim7.holds Tryz.pinned (.plain (OpenSpec.ofChange rescueHallSpec)) rescueHallCard

/-- THE TIED CARD OF 'telecinelaw04.RescueMore'. -/
def rescueMoreCard : Claim7 := { stood := { row := rescueMoreRow, standIns := [], harness := (true, "3ecf30f6fcb6b327603aead051cca7290766c8fc243b3bf4be531ddac3124e00"), looks := true }, kinds := [], alts := [], laidByText := true, laidKinds := [.data, .pinned], laidTests := true, laidLooks := .later }
def RescueMoreCardSaid : Prop := Claim7.holds Tryz.pinned (.plain (OpenSpec.ofChange rescueMoreSpec)) rescueMoreCard

/-- THE TIED CARD OF 'telecinelaw04.RescueWithout'. -/
def rescueWithoutCard : Claim7 := { stood := { row := rescueWithoutRow, standIns := [], harness := (true, "3ecf30f6fcb6b327603aead051cca7290766c8fc243b3bf4be531ddac3124e00"), looks := true }, kinds := [], alts := [], laidByText := true, laidKinds := [.data, .pinned], laidTests := true, laidLooks := .later }
def RescueWithoutCardSaid : Prop := Claim7.holds Tryz.pinned (.plain (OpenSpec.ofChange rescueWithoutSpec)) rescueWithoutCard

/-- THE TIED CARD OF 'telecinelaw04.RescueRooms'. -/
def rescueRoomsCard : Claim7 := { stood := { row := rescueRoomsRow, standIns := [], harness := (true, "3ecf30f6fcb6b327603aead051cca7290766c8fc243b3bf4be531ddac3124e00"), looks := true }, kinds := [], alts := [], laidByText := true, laidKinds := [.data, .pinned], laidTests := true, laidLooks := .later }
def RescueRoomsCardSaid : Prop := Claim7.holds Tryz.pinned (.plain (OpenSpec.ofChange rescueRoomsSpec)) rescueRoomsCard

/-- THE TIED CARD OF 'telecinelaw04.RescueKnown'. -/
def rescueKnownCard : Claim7 := { stood := { row := rescueKnownRow, standIns := [], harness := (true, "3ecf30f6fcb6b327603aead051cca7290766c8fc243b3bf4be531ddac3124e00"), looks := true }, kinds := [], alts := [], laidByText := true, laidKinds := [.data, .pinned], laidTests := true, laidLooks := .later }
def RescueKnownCardSaid : Prop := Claim7.holds Tryz.pinned (.plain (OpenSpec.ofChange rescueKnownSpec)) rescueKnownCard

/-- THE TIED CARD OF 'telecinelaw04.RescueFurther'. -/
def rescueFurtherCard : Claim7 := { stood := { row := rescueFurtherRow, standIns := [], harness := (true, "3ecf30f6fcb6b327603aead051cca7290766c8fc243b3bf4be531ddac3124e00"), looks := true }, kinds := [], alts := [], laidByText := true, laidKinds := [.data, .pinned], laidTests := true, laidLooks := .later }
def RescueFurtherCardSaid : Prop := Claim7.holds Tryz.pinned (.plain (OpenSpec.ofChange rescueFurtherSpec)) rescueFurtherCard

/-- THE TIED CARD OF 'telecinelaw04.RescueInTime'. -/
def rescueInTimeCard : Claim7 := { stood := { row := rescueInTimeRow, standIns := [], harness := (true, "3ecf30f6fcb6b327603aead051cca7290766c8fc243b3bf4be531ddac3124e00"), looks := true }, kinds := [], alts := [], laidByText := true, laidKinds := [.data, .pinned], laidTests := true, laidLooks := .later }
def RescueInTimeCardSaid : Prop := Claim7.holds Tryz.pinned (.plain (OpenSpec.ofChange rescueInTimeSpec)) rescueInTimeCard

/-- THE TIED CARD OF 'telecinetop.TopCopied'. -/
def topCopiedCard : Claim7 := { stood := { row := topCopiedRow, standIns := [], harness := (true, "3ecf30f6fcb6b327603aead051cca7290766c8fc243b3bf4be531ddac3124e00"), looks := true }, kinds := [], alts := [], laidByText := true, laidKinds := [.data, .pinned], laidTests := true, laidLooks := .later }
def TopCopiedCardSaid : Prop := Claim7.holds Tryz.pinned (.plain (OpenSpec.ofChange topCopiedSpec)) topCopiedCard

/-- THE SECOND FORM's CARD OF 'telecinelaw04.RescueChecks'. -/
def rescueChecksUptoCard : Claim7 := { stood := { row := rescueChecksUptoRow, standIns := [], harness := (true, "3ecf30f6fcb6b327603aead051cca7290766c8fc243b3bf4be531ddac3124e00"), looks := true }, kinds := [], alts := [], laidByText := true, laidKinds := [.data, .pinned], laidTests := true, laidLooks := .later }
def RescueChecksUptoCardSaid : Prop := Claim7.holds Tryz.pinned (.plain (OpenSpec.upto rescueChecksSpec)) rescueChecksUptoCard

/-- THE SECOND FORM's CARD OF 'telecinelaw04.RescueFits'. -/
def rescueFitsUptoCard : Claim7 := { stood := { row := rescueFitsUptoRow, standIns := [], harness := (true, "3ecf30f6fcb6b327603aead051cca7290766c8fc243b3bf4be531ddac3124e00"), looks := true }, kinds := [], alts := [], laidByText := true, laidKinds := [.data, .pinned], laidTests := true, laidLooks := .later }
def RescueFitsUptoCardSaid : Prop := Claim7.holds Tryz.pinned (.plain (OpenSpec.upto rescueFitsSpec)) rescueFitsUptoCard

/-- THE SECOND FORM's CARD OF 'telecinelaw04.RescuePlans'. -/
def rescuePlansUptoCard : Claim7 := { stood := { row := rescuePlansUptoRow, standIns := [], harness := (true, "3ecf30f6fcb6b327603aead051cca7290766c8fc243b3bf4be531ddac3124e00"), looks := true }, kinds := [], alts := [], laidByText := true, laidKinds := [.data, .pinned], laidTests := true, laidLooks := .later }
def RescuePlansUptoCardSaid : Prop := Claim7.holds Tryz.pinned (.plain (OpenSpec.upto rescuePlansSpec)) rescuePlansUptoCard

/-- THE SECOND FORM's CARD OF 'telecinelaw04.RescueJudges'. -/
def rescueJudgesUptoCard : Claim7 := { stood := { row := rescueJudgesUptoRow, standIns := [], harness := (true, "3ecf30f6fcb6b327603aead051cca7290766c8fc243b3bf4be531ddac3124e00"), looks := true }, kinds := [], alts := [], laidByText := true, laidKinds := [.data, .pinned], laidTests := true, laidLooks := .later }
def RescueJudgesUptoCardSaid : Prop := Claim7.holds Tryz.pinned (.plain (OpenSpec.upto rescueJudgesSpec)) rescueJudgesUptoCard

/-- THE SECOND FORM's CARD OF 'telecinelaw04.RescueDues'. -/
def rescueDuesUptoCard : Claim7 := { stood := { row := rescueDuesUptoRow, standIns := [], harness := (true, "3ecf30f6fcb6b327603aead051cca7290766c8fc243b3bf4be531ddac3124e00"), looks := true }, kinds := [], alts := [], laidByText := true, laidKinds := [.data, .pinned], laidTests := true, laidLooks := .later }
def RescueDuesUptoCardSaid : Prop := Claim7.holds Tryz.pinned (.plain (OpenSpec.upto rescueDuesSpec)) rescueDuesUptoCard

/-- THE SECOND FORM's CARD OF 'telecinelaw04.RescueBest'. -/
def rescueBestUptoCard : Claim7 := { stood := { row := rescueBestUptoRow, standIns := [], harness := (true, "3ecf30f6fcb6b327603aead051cca7290766c8fc243b3bf4be531ddac3124e00"), looks := true }, kinds := [], alts := [], laidByText := true, laidKinds := [.data, .pinned], laidTests := true, laidLooks := .later }
def RescueBestUptoCardSaid : Prop := Claim7.holds Tryz.pinned (.plain (OpenSpec.upto rescueBestSpec)) rescueBestUptoCard

/-- THE SECOND FORM's CARD OF 'telecinelaw04.RescueProves'. -/
def rescueProvesUptoCard : Claim7 := { stood := { row := rescueProvesUptoRow, standIns := [], harness := (true, "3ecf30f6fcb6b327603aead051cca7290766c8fc243b3bf4be531ddac3124e00"), looks := true }, kinds := [], alts := [], laidByText := true, laidKinds := [.data, .pinned], laidTests := true, laidLooks := .later }
def RescueProvesUptoCardSaid : Prop := Claim7.holds Tryz.pinned (.plain (OpenSpec.upto rescueProvesSpec)) rescueProvesUptoCard

/-- THE SECOND FORM's CARD OF 'telecinelaw04.RescuePlaces'. -/
def rescuePlacesUptoCard : Claim7 := { stood := { row := rescuePlacesUptoRow, standIns := [], harness := (true, "3ecf30f6fcb6b327603aead051cca7290766c8fc243b3bf4be531ddac3124e00"), looks := true }, kinds := [], alts := [], laidByText := true, laidKinds := [.data, .pinned], laidTests := true, laidLooks := .later }
def RescuePlacesUptoCardSaid : Prop := Claim7.holds Tryz.pinned (.plain (OpenSpec.upto rescuePlacesSpec)) rescuePlacesUptoCard

/-- THE SECOND FORM's CARD OF 'telecinelaw04.RescueHall'. -/
def rescueHallUptoCard : Claim7 := { stood := { row := rescueHallUptoRow, standIns := [], harness := (true, "3ecf30f6fcb6b327603aead051cca7290766c8fc243b3bf4be531ddac3124e00"), looks := true }, kinds := [], alts := [], laidByText := true, laidKinds := [.data, .pinned], laidTests := true, laidLooks := .later }
def RescueHallUptoCardSaid : Prop := Claim7.holds Tryz.pinned (.plain (OpenSpec.upto rescueHallSpec)) rescueHallUptoCard

/-- THE SECOND FORM's CARD OF 'telecinelaw04.RescueMore'. -/
def rescueMoreUptoCard : Claim7 := { stood := { row := rescueMoreUptoRow, standIns := [], harness := (true, "3ecf30f6fcb6b327603aead051cca7290766c8fc243b3bf4be531ddac3124e00"), looks := true }, kinds := [], alts := [], laidByText := true, laidKinds := [.data, .pinned], laidTests := true, laidLooks := .later }
def RescueMoreUptoCardSaid : Prop := Claim7.holds Tryz.pinned (.plain (OpenSpec.upto rescueMoreSpec)) rescueMoreUptoCard

/-- THE SECOND FORM's CARD OF 'telecinelaw04.RescueWithout'. -/
def rescueWithoutUptoCard : Claim7 := { stood := { row := rescueWithoutUptoRow, standIns := [], harness := (true, "3ecf30f6fcb6b327603aead051cca7290766c8fc243b3bf4be531ddac3124e00"), looks := true }, kinds := [], alts := [], laidByText := true, laidKinds := [.data, .pinned], laidTests := true, laidLooks := .later }
def RescueWithoutUptoCardSaid : Prop := Claim7.holds Tryz.pinned (.plain (OpenSpec.upto rescueWithoutSpec)) rescueWithoutUptoCard

/-- THE SECOND FORM's CARD OF 'telecinelaw04.RescueRooms'. -/
def rescueRoomsUptoCard : Claim7 := { stood := { row := rescueRoomsUptoRow, standIns := [], harness := (true, "3ecf30f6fcb6b327603aead051cca7290766c8fc243b3bf4be531ddac3124e00"), looks := true }, kinds := [], alts := [], laidByText := true, laidKinds := [.data, .pinned], laidTests := true, laidLooks := .later }
def RescueRoomsUptoCardSaid : Prop := Claim7.holds Tryz.pinned (.plain (OpenSpec.upto rescueRoomsSpec)) rescueRoomsUptoCard

/-- THE SECOND FORM's CARD OF 'telecinelaw04.RescueKnown'. -/
def rescueKnownUptoCard : Claim7 := { stood := { row := rescueKnownUptoRow, standIns := [], harness := (true, "3ecf30f6fcb6b327603aead051cca7290766c8fc243b3bf4be531ddac3124e00"), looks := true }, kinds := [], alts := [], laidByText := true, laidKinds := [.data, .pinned], laidTests := true, laidLooks := .later }
def RescueKnownUptoCardSaid : Prop := Claim7.holds Tryz.pinned (.plain (OpenSpec.upto rescueKnownSpec)) rescueKnownUptoCard

/-- THE SECOND FORM's CARD OF 'telecinelaw04.RescueFurther'. -/
def rescueFurtherUptoCard : Claim7 := { stood := { row := rescueFurtherUptoRow, standIns := [], harness := (true, "3ecf30f6fcb6b327603aead051cca7290766c8fc243b3bf4be531ddac3124e00"), looks := true }, kinds := [], alts := [], laidByText := true, laidKinds := [.data, .pinned], laidTests := true, laidLooks := .later }
def RescueFurtherUptoCardSaid : Prop := Claim7.holds Tryz.pinned (.plain (OpenSpec.upto rescueFurtherSpec)) rescueFurtherUptoCard

/-- THE SECOND FORM's CARD OF 'telecinelaw04.RescueInTime'. -/
def rescueInTimeUptoCard : Claim7 := { stood := { row := rescueInTimeUptoRow, standIns := [], harness := (true, "3ecf30f6fcb6b327603aead051cca7290766c8fc243b3bf4be531ddac3124e00"), looks := true }, kinds := [], alts := [], laidByText := true, laidKinds := [.data, .pinned], laidTests := true, laidLooks := .later }
def RescueInTimeUptoCardSaid : Prop := Claim7.holds Tryz.pinned (.plain (OpenSpec.upto rescueInTimeSpec)) rescueInTimeUptoCard

/-- THE SECOND FORM's CARD OF 'telecinetop.TopCopied'. -/
def topCopiedUptoCard : Claim7 := { stood := { row := topCopiedUptoRow, standIns := [], harness := (true, "3ecf30f6fcb6b327603aead051cca7290766c8fc243b3bf4be531ddac3124e00"), looks := true }, kinds := [], alts := [], laidByText := true, laidKinds := [.data, .pinned], laidTests := true, laidLooks := .later }
def TopCopiedUptoCardSaid : Prop := Claim7.holds Tryz.pinned (.plain (OpenSpec.upto topCopiedSpec)) topCopiedUptoCard
end Rows
end Go.Proofs.YtcjmpdpgfmjcgaaGreatDoor
