/-
  DERIVED. GIVEN WITH THE SEED: THE CARDS: each row of YtfgeelpahicelaaGreatDoorRows.lean that lists a variable, with what it lists TIED to the program's text (the seventh form; the later family's looks); each row that meets fmt, with fmt's text TOLD by the authors' own Lean function (tested against real Go, not proved from fmt's source: count such statements apart). THE CARD IS WHAT COUNTS. Prove the row's statement (the work); the ties are given (YtfgeelpahicelaaGreatDoorTie.lean); close each card by the builder's one call (the guide's Derived/Test/ToyasCard.lean, 'card_holds'). Laid BY PROGRAM, IN A SANDBOX (cutbox-door.mjs). By AI agents, Wed Nov 11 2026. No macro, syntax, notation, axiom, sorry.
-/
import Derived.Test.YtfgeelpahicelaaGreatDoorRows
import GoSem.ClaimSeven
namespace Go.Proofs.YtfgeelpahicelaaGreatDoor
namespace Rows

/-- THE TIED CARD OF 'telecinelaw11.ScreenChecks'. -/
def screenChecksCard : Claim7 := { stood := { row := screenChecksRow, standIns := [], harness := (true, "ab7e6dfdffd77e11a09053b4c289b031e3a5d2ac49614169c879344bf4857ff5"), looks := true }, kinds := [], alts := [], laidByText := true, laidKinds := [.data, .data, .data, .data, .listed, .data, .pinned], laidTests := true, laidLooks := .later }
def ScreenChecksCardSaid : Prop := Claim7.holds Tryz.pinned (.plain (OpenSpec.ofChange screenChecksSpec)) screenChecksCard

/-- THE TIED CARD OF 'telecinelaw11.ScreenMays'. -/
def screenMaysCard : Claim7 := { stood := { row := screenMaysRow, standIns := [], harness := (true, "ab7e6dfdffd77e11a09053b4c289b031e3a5d2ac49614169c879344bf4857ff5"), looks := true }, kinds := [], alts := [], laidByText := true, laidKinds := [.data, .data, .data, .data, .listed, .data, .pinned], laidTests := true, laidLooks := .later }
def ScreenMaysCardSaid : Prop := Claim7.holds Tryz.pinned (.plain (OpenSpec.ofChange screenMaysSpec)) screenMaysCard

/-- THE TIED CARD OF 'telecinelaw11.ScreenLent'. -/
def screenLentCard : Claim7 := { stood := { row := screenLentRow, standIns := [], harness := (true, "ab7e6dfdffd77e11a09053b4c289b031e3a5d2ac49614169c879344bf4857ff5"), looks := true }, kinds := [], alts := [], laidByText := true, laidKinds := [.data, .data, .data, .data, .listed, .data, .pinned], laidTests := true, laidLooks := .later }
def ScreenLentCardSaid : Prop := Claim7.holds Tryz.pinned (.plain (OpenSpec.ofChange screenLentSpec)) screenLentCard

/-- THE TIED CARD OF 'telecinelaw11.ScreenTimes'. -/
def screenTimesCard : Claim7 := { stood := { row := screenTimesRow, standIns := [], harness := (true, "ab7e6dfdffd77e11a09053b4c289b031e3a5d2ac49614169c879344bf4857ff5"), looks := true }, kinds := [], alts := [], laidByText := true, laidKinds := [.data, .data, .data, .data, .listed, .data, .pinned], laidTests := true, laidLooks := .later }
def ScreenTimesCardSaid : Prop := Claim7.holds Tryz.pinned (.plain (OpenSpec.ofChange screenTimesSpec)) screenTimesCard

/-- THE TIED CARD OF 'telecinelaw11.ScreenTitles'. -/
def screenTitlesCard : Claim7 := { stood := { row := screenTitlesRow, standIns := [], harness := (true, "ab7e6dfdffd77e11a09053b4c289b031e3a5d2ac49614169c879344bf4857ff5"), looks := true }, kinds := [], alts := [], laidByText := true, laidKinds := [.data, .data, .data, .data, .listed, .data, .pinned], laidTests := true, laidLooks := .later }
def ScreenTitlesCardSaid : Prop := Claim7.holds Tryz.pinned (.plain (OpenSpec.ofChange screenTitlesSpec)) screenTitlesCard

/-- THE TIED CARD OF 'telecinelaw11.ScreenCut'. -/
def screenCutCard : Claim7 := { stood := { row := screenCutRow, standIns := [], harness := (true, "ab7e6dfdffd77e11a09053b4c289b031e3a5d2ac49614169c879344bf4857ff5"), looks := true }, kinds := [], alts := [], laidByText := true, laidKinds := [.data, .data, .data, .data, .listed, .data, .pinned], laidTests := true, laidLooks := .later }
def ScreenCutCardSaid : Prop := Claim7.holds Tryz.pinned (.plain (OpenSpec.ofChange screenCutSpec)) screenCutCard

/-- THE TIED CARD OF 'telecinetop.TopShortened'. -/
def topShortenedCard : Claim7 := { stood := { row := topShortenedRow, standIns := [], harness := (true, "ab7e6dfdffd77e11a09053b4c289b031e3a5d2ac49614169c879344bf4857ff5"), looks := true }, kinds := [], alts := [], laidByText := true, laidKinds := [.data, .data, .data, .data, .listed, .data, .pinned], laidTests := true, laidLooks := .later }
def TopShortenedCardSaid : Prop := Claim7.holds Tryz.pinned (.plain (OpenSpec.ofChange topShortenedSpec)) topShortenedCard

/-- THE TIED CARD OF 'telecinelaw11.ScreenPlays'. -/
def screenPlaysCard : Claim7 := { stood := { row := screenPlaysRow, standIns := [], harness := (true, "ab7e6dfdffd77e11a09053b4c289b031e3a5d2ac49614169c879344bf4857ff5"), looks := true }, kinds := [], alts := [], laidByText := true, laidKinds := [.data, .data, .data, .data, .listed, .data, .pinned], laidTests := true, laidLooks := .later }
def ScreenPlaysCardSaid : Prop := Claim7.holds Tryz.pinned (.plain (OpenSpec.ofChange screenPlaysSpec)) screenPlaysCard

/-- THE TIED CARD OF 'telecinelaw11.ScreenRights'. -/
def screenRightsCard : Claim7 := { stood := { row := screenRightsRow, standIns := [], harness := (true, "ab7e6dfdffd77e11a09053b4c289b031e3a5d2ac49614169c879344bf4857ff5"), looks := true }, kinds := [], alts := [], laidByText := true, laidKinds := [.data, .data, .data, .data, .listed, .data, .pinned], laidTests := true, laidLooks := .later }
def ScreenRightsCardSaid : Prop := Claim7.holds Tryz.pinned (.plain (OpenSpec.ofChange screenRightsSpec)) screenRightsCard

/-- THE TIED CARD OF 'telecinelaw11.ScreenAlone'. -/
def screenAloneCard : Claim7 := { stood := { row := screenAloneRow, standIns := [], harness := (true, "ab7e6dfdffd77e11a09053b4c289b031e3a5d2ac49614169c879344bf4857ff5"), looks := true }, kinds := [], alts := [], laidByText := true, laidKinds := [.data, .data, .data, .data, .listed, .data, .pinned], laidTests := true, laidLooks := .later }
def ScreenAloneCardSaid : Prop := Claim7.holds Tryz.pinned (.plain (OpenSpec.ofChange screenAloneSpec)) screenAloneCard

/-- THE TIED CARD OF 'telecinelaw11.ScreenBests'. -/
def screenBestsCard : Claim7 := { stood := { row := screenBestsRow, standIns := [], harness := (true, "ab7e6dfdffd77e11a09053b4c289b031e3a5d2ac49614169c879344bf4857ff5"), looks := true }, kinds := [], alts := [], laidByText := true, laidKinds := [.data, .data, .data, .data, .listed, .data, .pinned], laidTests := true, laidLooks := .later }
def ScreenBestsCardSaid : Prop := Claim7.holds Tryz.pinned (.plain (OpenSpec.ofChange screenBestsSpec)) screenBestsCard

/-- THE TIED CARD OF 'telecinelaw11.ScreenBest'. -/
def screenBestCard : Claim7 := { stood := { row := screenBestRow, standIns := [], harness := (true, "ab7e6dfdffd77e11a09053b4c289b031e3a5d2ac49614169c879344bf4857ff5"), looks := true }, kinds := [], alts := [], laidByText := true, laidKinds := [.data, .data, .data, .data, .listed, .data, .pinned], laidTests := true, laidLooks := .later }
def ScreenBestCardSaid : Prop := Claim7.holds Tryz.pinned (.plain (OpenSpec.ofChange screenBestSpec)) screenBestCard

/-- THE TIED CARD OF 'telecinelaw11.ScreenKnown'. -/
def screenKnownCard : Claim7 := { stood := { row := screenKnownRow, standIns := [], harness := (true, "ab7e6dfdffd77e11a09053b4c289b031e3a5d2ac49614169c879344bf4857ff5"), looks := true }, kinds := [], alts := [], laidByText := true, laidKinds := [.data, .data, .data, .data, .listed, .data, .pinned], laidTests := true, laidLooks := .later }
def ScreenKnownCardSaid : Prop := Claim7.holds Tryz.pinned (.plain (OpenSpec.ofChange screenKnownSpec)) screenKnownCard

/-- THE TIED CARD OF 'telecinelaw11.ScreenFiles'. -/
def screenFilesCard : Claim7 := { stood := { row := screenFilesRow, standIns := [], harness := (true, "ab7e6dfdffd77e11a09053b4c289b031e3a5d2ac49614169c879344bf4857ff5"), looks := true }, kinds := [], alts := [], laidByText := true, laidKinds := [.data, .data, .data, .data, .sentinel, .sentinel, .listed, .data, .pinned], laidTests := true, laidLooks := .later }
def ScreenFilesCardSaid : Prop := Claim7.holds Tryz.pinned (.plain (OpenSpec.ofChange screenFilesSpec)) screenFilesCard

/-- THE TIED CARD OF 'telecinelaw11.ScreenRound'. -/
def screenRoundCard : Claim7 := { stood := { row := screenRoundRow, standIns := [], harness := (true, "ab7e6dfdffd77e11a09053b4c289b031e3a5d2ac49614169c879344bf4857ff5"), looks := true }, kinds := [], alts := [], laidByText := true, laidKinds := [.data, .data, .data, .data, .sentinel, .sentinel, .listed, .data, .pinned], laidTests := true, laidLooks := .later }
def ScreenRoundCardSaid : Prop := Claim7.holds Tryz.pinned (.plain (OpenSpec.ofChange screenRoundSpec)) screenRoundCard

/-- THE SECOND FORM's CARD OF 'telecinelaw11.ScreenChecks'. -/
def screenChecksUptoCard : Claim7 := { stood := { row := screenChecksUptoRow, standIns := [], harness := (true, "ab7e6dfdffd77e11a09053b4c289b031e3a5d2ac49614169c879344bf4857ff5"), looks := true }, kinds := [], alts := [], laidByText := true, laidKinds := [.data, .data, .data, .data, .listed, .data, .pinned], laidTests := true, laidLooks := .later }
def ScreenChecksUptoCardSaid : Prop := Claim7.holds Tryz.pinned (.plain (OpenSpec.upto screenChecksSpec)) screenChecksUptoCard

/-- THE SECOND FORM's CARD OF 'telecinelaw11.ScreenMays'. -/
def screenMaysUptoCard : Claim7 := { stood := { row := screenMaysUptoRow, standIns := [], harness := (true, "ab7e6dfdffd77e11a09053b4c289b031e3a5d2ac49614169c879344bf4857ff5"), looks := true }, kinds := [], alts := [], laidByText := true, laidKinds := [.data, .data, .data, .data, .listed, .data, .pinned], laidTests := true, laidLooks := .later }
def ScreenMaysUptoCardSaid : Prop := Claim7.holds Tryz.pinned (.plain (OpenSpec.upto screenMaysSpec)) screenMaysUptoCard

/-- THE SECOND FORM's CARD OF 'telecinelaw11.ScreenLent'. -/
def screenLentUptoCard : Claim7 := { stood := { row := screenLentUptoRow, standIns := [], harness := (true, "ab7e6dfdffd77e11a09053b4c289b031e3a5d2ac49614169c879344bf4857ff5"), looks := true }, kinds := [], alts := [], laidByText := true, laidKinds := [.data, .data, .data, .data, .listed, .data, .pinned], laidTests := true, laidLooks := .later }
def ScreenLentUptoCardSaid : Prop := Claim7.holds Tryz.pinned (.plain (OpenSpec.upto screenLentSpec)) screenLentUptoCard

/-- THE SECOND FORM's CARD OF 'telecinelaw11.ScreenTimes'. -/
def screenTimesUptoCard : Claim7 := { stood := { row := screenTimesUptoRow, standIns := [], harness := (true, "ab7e6dfdffd77e11a09053b4c289b031e3a5d2ac49614169c879344bf4857ff5"), looks := true }, kinds := [], alts := [], laidByText := true, laidKinds := [.data, .data, .data, .data, .listed, .data, .pinned], laidTests := true, laidLooks := .later }
def ScreenTimesUptoCardSaid : Prop := Claim7.holds Tryz.pinned (.plain (OpenSpec.upto screenTimesSpec)) screenTimesUptoCard

/-- THE SECOND FORM's CARD OF 'telecinelaw11.ScreenTitles'. -/
def screenTitlesUptoCard : Claim7 := { stood := { row := screenTitlesUptoRow, standIns := [], harness := (true, "ab7e6dfdffd77e11a09053b4c289b031e3a5d2ac49614169c879344bf4857ff5"), looks := true }, kinds := [], alts := [], laidByText := true, laidKinds := [.data, .data, .data, .data, .listed, .data, .pinned], laidTests := true, laidLooks := .later }
def ScreenTitlesUptoCardSaid : Prop := Claim7.holds Tryz.pinned (.plain (OpenSpec.upto screenTitlesSpec)) screenTitlesUptoCard

/-- THE SECOND FORM's CARD OF 'telecinelaw11.ScreenCut'. -/
def screenCutUptoCard : Claim7 := { stood := { row := screenCutUptoRow, standIns := [], harness := (true, "ab7e6dfdffd77e11a09053b4c289b031e3a5d2ac49614169c879344bf4857ff5"), looks := true }, kinds := [], alts := [], laidByText := true, laidKinds := [.data, .data, .data, .data, .listed, .data, .pinned], laidTests := true, laidLooks := .later }
def ScreenCutUptoCardSaid : Prop := Claim7.holds Tryz.pinned (.plain (OpenSpec.upto screenCutSpec)) screenCutUptoCard

/-- THE SECOND FORM's CARD OF 'telecinetop.TopShortened'. -/
def topShortenedUptoCard : Claim7 := { stood := { row := topShortenedUptoRow, standIns := [], harness := (true, "ab7e6dfdffd77e11a09053b4c289b031e3a5d2ac49614169c879344bf4857ff5"), looks := true }, kinds := [], alts := [], laidByText := true, laidKinds := [.data, .data, .data, .data, .listed, .data, .pinned], laidTests := true, laidLooks := .later }
def TopShortenedUptoCardSaid : Prop := Claim7.holds Tryz.pinned (.plain (OpenSpec.upto topShortenedSpec)) topShortenedUptoCard

/-- THE SECOND FORM's CARD OF 'telecinelaw11.ScreenPlays'. -/
def screenPlaysUptoCard : Claim7 := { stood := { row := screenPlaysUptoRow, standIns := [], harness := (true, "ab7e6dfdffd77e11a09053b4c289b031e3a5d2ac49614169c879344bf4857ff5"), looks := true }, kinds := [], alts := [], laidByText := true, laidKinds := [.data, .data, .data, .data, .listed, .data, .pinned], laidTests := true, laidLooks := .later }
def ScreenPlaysUptoCardSaid : Prop := Claim7.holds Tryz.pinned (.plain (OpenSpec.upto screenPlaysSpec)) screenPlaysUptoCard

/-- THE SECOND FORM's CARD OF 'telecinelaw11.ScreenRights'. -/
def screenRightsUptoCard : Claim7 := { stood := { row := screenRightsUptoRow, standIns := [], harness := (true, "ab7e6dfdffd77e11a09053b4c289b031e3a5d2ac49614169c879344bf4857ff5"), looks := true }, kinds := [], alts := [], laidByText := true, laidKinds := [.data, .data, .data, .data, .listed, .data, .pinned], laidTests := true, laidLooks := .later }
def ScreenRightsUptoCardSaid : Prop := Claim7.holds Tryz.pinned (.plain (OpenSpec.upto screenRightsSpec)) screenRightsUptoCard

/-- THE SECOND FORM's CARD OF 'telecinelaw11.ScreenAlone'. -/
def screenAloneUptoCard : Claim7 := { stood := { row := screenAloneUptoRow, standIns := [], harness := (true, "ab7e6dfdffd77e11a09053b4c289b031e3a5d2ac49614169c879344bf4857ff5"), looks := true }, kinds := [], alts := [], laidByText := true, laidKinds := [.data, .data, .data, .data, .listed, .data, .pinned], laidTests := true, laidLooks := .later }
def ScreenAloneUptoCardSaid : Prop := Claim7.holds Tryz.pinned (.plain (OpenSpec.upto screenAloneSpec)) screenAloneUptoCard

/-- THE SECOND FORM's CARD OF 'telecinelaw11.ScreenBests'. -/
def screenBestsUptoCard : Claim7 := { stood := { row := screenBestsUptoRow, standIns := [], harness := (true, "ab7e6dfdffd77e11a09053b4c289b031e3a5d2ac49614169c879344bf4857ff5"), looks := true }, kinds := [], alts := [], laidByText := true, laidKinds := [.data, .data, .data, .data, .listed, .data, .pinned], laidTests := true, laidLooks := .later }
def ScreenBestsUptoCardSaid : Prop := Claim7.holds Tryz.pinned (.plain (OpenSpec.upto screenBestsSpec)) screenBestsUptoCard

/-- THE SECOND FORM's CARD OF 'telecinelaw11.ScreenBest'. -/
def screenBestUptoCard : Claim7 := { stood := { row := screenBestUptoRow, standIns := [], harness := (true, "ab7e6dfdffd77e11a09053b4c289b031e3a5d2ac49614169c879344bf4857ff5"), looks := true }, kinds := [], alts := [], laidByText := true, laidKinds := [.data, .data, .data, .data, .listed, .data, .pinned], laidTests := true, laidLooks := .later }
def ScreenBestUptoCardSaid : Prop := Claim7.holds Tryz.pinned (.plain (OpenSpec.upto screenBestSpec)) screenBestUptoCard

/-- THE SECOND FORM's CARD OF 'telecinelaw11.ScreenKnown'. -/
def screenKnownUptoCard : Claim7 := { stood := { row := screenKnownUptoRow, standIns := [], harness := (true, "ab7e6dfdffd77e11a09053b4c289b031e3a5d2ac49614169c879344bf4857ff5"), looks := true }, kinds := [], alts := [], laidByText := true, laidKinds := [.data, .data, .data, .data, .listed, .data, .pinned], laidTests := true, laidLooks := .later }
def ScreenKnownUptoCardSaid : Prop := Claim7.holds Tryz.pinned (.plain (OpenSpec.upto screenKnownSpec)) screenKnownUptoCard

/-- THE SECOND FORM's CARD OF 'telecinelaw11.ScreenFiles'. -/
def screenFilesUptoCard : Claim7 := { stood := { row := screenFilesUptoRow, standIns := [], harness := (true, "ab7e6dfdffd77e11a09053b4c289b031e3a5d2ac49614169c879344bf4857ff5"), looks := true }, kinds := [], alts := [], laidByText := true, laidKinds := [.data, .data, .data, .data, .sentinel, .sentinel, .listed, .data, .pinned], laidTests := true, laidLooks := .later }
def ScreenFilesUptoCardSaid : Prop := Claim7.holds Tryz.pinned (.plain (OpenSpec.upto screenFilesSpec)) screenFilesUptoCard

/-- THE SECOND FORM's CARD OF 'telecinelaw11.ScreenRound'. -/
def screenRoundUptoCard : Claim7 := { stood := { row := screenRoundUptoRow, standIns := [], harness := (true, "ab7e6dfdffd77e11a09053b4c289b031e3a5d2ac49614169c879344bf4857ff5"), looks := true }, kinds := [], alts := [], laidByText := true, laidKinds := [.data, .data, .data, .data, .sentinel, .sentinel, .listed, .data, .pinned], laidTests := true, laidLooks := .later }
def ScreenRoundUptoCardSaid : Prop := Claim7.holds Tryz.pinned (.plain (OpenSpec.upto screenRoundSpec)) screenRoundUptoCard
end Rows
end Go.Proofs.YtfgeelpahicelaaGreatDoor
