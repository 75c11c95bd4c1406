/-
  NARROWER THAN 'FOR EVERY INPUT', by the rows' own cells (each row's printed sentence says how): RescueChecks: laid · RescueFits: laid · RescuePlans: laid · RescueJudges: laid · RescueDues: laid · RescueBest: laid · RescueProves: laid · RescuePlaces: laid · RescueHall: laid · RescueMore: laid · RescueWithout: laid · RescueRooms: laid · RescueKnown: laid · RescueFurther: laid · RescueInTime: laid · TopCopied: laid.
  DERIVED. THE GIVEN ROWS OF THIS SEAT. 16 by the template 'for every input the law returns true; each argument reads behind the call as it read before'; 0 by the template 'total and deterministic' (their statements: YtcjmpdpgfmjcgaaGreatDoorTotals.lean).
  GIVEN WITH THE SEED: the statements are not yours to turn. If you find one false, say at which input.
  Laid BY PROGRAM, IN A SANDBOX (cutbox-rows.mjs): the forced cells as the released guide's own fill.sh prints them over the translation f896e261961f572f… (all of the seat's roots in one cut). By AI agents, Wed Nov 11 2026. No macro, syntax, notation, axiom, sorry.
-/
import Derived.Test.YtcjmpdpgfmjcgaaGreatDoorChecked
import GoSem.PinnedTables
import GoSem.Claim
import GoSem.ClaimJoined
import GoSem.ClaimMapViews
import Derived.JoinedTies
import Derived.KernelRfl
namespace Go.Proofs.YtcjmpdpgfmjcgaaGreatDoor
/- THE CELL 'sum', in the pinned program and in every row, IS THE sha256 OF THE DUMP (.gsa) THAT YtcjmpdpgfmjcgaaGreatDoorProg.lean LOADS. Nothing in Lean hashes anything: it is a label: what it is worth is what the hold of that sum in a sandbox is worth. -/
noncomputable def Tryz.pinned : Pinned := { name := "ytcjmpdpgfmjcgaagreatdoor", sum := "f896e261961f572f27cfd1090297f76d0b6d4184326464225a26c40128136a79", checked := Tryz.checked }
namespace Rows
def none {H : Type} : Left H := { results := [], args := [] }

/- WHAT THE LISTED PACKAGE-LEVEL VARIABLES READ AS WHEN THE CALL BEGINS. Each datum BY PROGRAM (the guide's laid-datum.mjs) off the statement by which the dump's own 'gosem.cut.vars' lays the variable. In a bare row this is a premise. The card (YtcjmpdpgfmjcgaaGreatDoorCards.lean) ties it to the program's text. -/
def laid_unicode_utf8_acceptRanges {H : Type} : DataW H := .agg [.agg [.lit (.int .u8 128), .lit (.int .u8 191)], .agg [.lit (.int .u8 160), .lit (.int .u8 191)], .agg [.lit (.int .u8 128), .lit (.int .u8 159)], .agg [.lit (.int .u8 144), .lit (.int .u8 191)], .agg [.lit (.int .u8 128), .lit (.int .u8 143)], .agg [.lit (.int .u8 0), .lit (.int .u8 0)], .agg [.lit (.int .u8 0), .lit (.int .u8 0)], .agg [.lit (.int .u8 0), .lit (.int .u8 0)], .agg [.lit (.int .u8 0), .lit (.int .u8 0)], .agg [.lit (.int .u8 0), .lit (.int .u8 0)], .agg [.lit (.int .u8 0), .lit (.int .u8 0)], .agg [.lit (.int .u8 0), .lit (.int .u8 0)], .agg [.lit (.int .u8 0), .lit (.int .u8 0)], .agg [.lit (.int .u8 0), .lit (.int .u8 0)], .agg [.lit (.int .u8 0), .lit (.int .u8 0)], .agg [.lit (.int .u8 0), .lit (.int .u8 0)]]
/-- One of Go's own tables, pinned by name: the form's constant. -/
def laid_unicode_utf8_first : DataW Unit := Go.Pinned.utf8First

/-- 'telecinelaw04.RescueChecks': WHATEVER THE INPUT: true; the input reads as it did. -/
def rescueChecksSpec : ChangeSpec := { name := "rescueChecks", fn := fun _ => fun
  | [d] => { results := [.lit (.bool true)], args := [d] }
  | _ => none }
def rescueChecksRow : OpenClaim := { program := "ytcjmpdpgfmjcgaagreatdoor", sum := "f896e261961f572f27cfd1090297f76d0b6d4184326464225a26c40128136a79", func := "telecine/telecinelaw04.RescueChecks", spec := "rescueChecks", inPlace := ["internal/bytealg.CountString", "internal/bytealg.IndexByteString", "internal/bytealg.IndexString"], unfollowed := true, recurses := true, named := ["unicode/utf8.first", "unicode/utf8.acceptRanges", "internal/bytealg.MaxLen"], plainKeys := false, apart := false, laid := [("unicode/utf8.acceptRanges", laid_unicode_utf8_acceptRanges), ("unicode/utf8.first", laid_unicode_utf8_first)] }
def RescueChecksSaid : Prop := rescueChecksRow.holds Tryz.pinned (OpenSpec.ofChange rescueChecksSpec)

/-- ITS FALSE NEIGHBOUR: 'it returns false'. Refute it at one input. -/
def rescueChecksWrong : ChangeSpec := { name := "rescueChecks", fn := fun _ => fun
  | [d] => { results := [.lit (.bool false)], args := [d] }
  | _ => none }
def RescueChecksWrongFalsely : Prop := rescueChecksRow.holds Tryz.pinned (OpenSpec.ofChange rescueChecksWrong)

/-- 'telecinelaw04.RescueFits': WHATEVER THE INPUT: true; the input reads as it did. -/
def rescueFitsSpec : ChangeSpec := { name := "rescueFits", fn := fun _ => fun
  | [d1, d2] => { results := [.lit (.bool true)], args := [d1, d2] }
  | _ => none }
def rescueFitsRow : OpenClaim := { program := "ytcjmpdpgfmjcgaagreatdoor", sum := "f896e261961f572f27cfd1090297f76d0b6d4184326464225a26c40128136a79", func := "telecine/telecinelaw04.RescueFits", spec := "rescueFits", inPlace := ["internal/bytealg.CountString", "internal/bytealg.IndexByteString", "internal/bytealg.IndexString"], unfollowed := true, recurses := true, named := ["unicode/utf8.first", "unicode/utf8.acceptRanges", "internal/bytealg.MaxLen"], plainKeys := false, apart := false, laid := [("unicode/utf8.acceptRanges", laid_unicode_utf8_acceptRanges), ("unicode/utf8.first", laid_unicode_utf8_first)] }
def RescueFitsSaid : Prop := rescueFitsRow.holds Tryz.pinned (OpenSpec.ofChange rescueFitsSpec)

/-- ITS FALSE NEIGHBOUR: 'it returns false'. Refute it at one input. -/
def rescueFitsWrong : ChangeSpec := { name := "rescueFits", fn := fun _ => fun
  | [d1, d2] => { results := [.lit (.bool false)], args := [d1, d2] }
  | _ => none }
def RescueFitsWrongFalsely : Prop := rescueFitsRow.holds Tryz.pinned (OpenSpec.ofChange rescueFitsWrong)

/-- 'telecinelaw04.RescuePlans': WHATEVER THE INPUT: true; the input reads as it did. -/
def rescuePlansSpec : ChangeSpec := { name := "rescuePlans", fn := fun _ => fun
  | [d] => { results := [.lit (.bool true)], args := [d] }
  | _ => none }
def rescuePlansRow : OpenClaim := { program := "ytcjmpdpgfmjcgaagreatdoor", sum := "f896e261961f572f27cfd1090297f76d0b6d4184326464225a26c40128136a79", func := "telecine/telecinelaw04.RescuePlans", spec := "rescuePlans", inPlace := ["internal/bytealg.CountString", "internal/bytealg.IndexByteString", "internal/bytealg.IndexString"], unfollowed := true, recurses := true, named := ["unicode/utf8.first", "unicode/utf8.acceptRanges", "internal/bytealg.MaxLen"], plainKeys := false, apart := false, laid := [("unicode/utf8.acceptRanges", laid_unicode_utf8_acceptRanges), ("unicode/utf8.first", laid_unicode_utf8_first)] }
def RescuePlansSaid : Prop := rescuePlansRow.holds Tryz.pinned (OpenSpec.ofChange rescuePlansSpec)

/-- ITS FALSE NEIGHBOUR: 'it returns false'. Refute it at one input. -/
def rescuePlansWrong : ChangeSpec := { name := "rescuePlans", fn := fun _ => fun
  | [d] => { results := [.lit (.bool false)], args := [d] }
  | _ => none }
def RescuePlansWrongFalsely : Prop := rescuePlansRow.holds Tryz.pinned (OpenSpec.ofChange rescuePlansWrong)

/-- 'telecinelaw04.RescueJudges': WHATEVER THE INPUT: true; the input reads as it did. -/
def rescueJudgesSpec : ChangeSpec := { name := "rescueJudges", fn := fun _ => fun
  | [d1, d2, d3] => { results := [.lit (.bool true)], args := [d1, d2, d3] }
  | _ => none }
def rescueJudgesRow : OpenClaim := { program := "ytcjmpdpgfmjcgaagreatdoor", sum := "f896e261961f572f27cfd1090297f76d0b6d4184326464225a26c40128136a79", func := "telecine/telecinelaw04.RescueJudges", spec := "rescueJudges", inPlace := ["internal/bytealg.CountString", "internal/bytealg.IndexByteString", "internal/bytealg.IndexString"], unfollowed := true, recurses := true, named := ["unicode/utf8.first", "unicode/utf8.acceptRanges", "internal/bytealg.MaxLen"], plainKeys := false, apart := false, laid := [("unicode/utf8.acceptRanges", laid_unicode_utf8_acceptRanges), ("unicode/utf8.first", laid_unicode_utf8_first)] }
def RescueJudgesSaid : Prop := rescueJudgesRow.holds Tryz.pinned (OpenSpec.ofChange rescueJudgesSpec)

/-- ITS FALSE NEIGHBOUR: 'it returns false'. Refute it at one input. -/
def rescueJudgesWrong : ChangeSpec := { name := "rescueJudges", fn := fun _ => fun
  | [d1, d2, d3] => { results := [.lit (.bool false)], args := [d1, d2, d3] }
  | _ => none }
def RescueJudgesWrongFalsely : Prop := rescueJudgesRow.holds Tryz.pinned (OpenSpec.ofChange rescueJudgesWrong)

/-- 'telecinelaw04.RescueDues': WHATEVER THE INPUT: true; the input reads as it did. -/
def rescueDuesSpec : ChangeSpec := { name := "rescueDues", fn := fun _ => fun
  | [d1, d2, d3] => { results := [.lit (.bool true)], args := [d1, d2, d3] }
  | _ => none }
def rescueDuesRow : OpenClaim := { program := "ytcjmpdpgfmjcgaagreatdoor", sum := "f896e261961f572f27cfd1090297f76d0b6d4184326464225a26c40128136a79", func := "telecine/telecinelaw04.RescueDues", spec := "rescueDues", inPlace := ["internal/bytealg.CountString", "internal/bytealg.IndexByteString", "internal/bytealg.IndexString"], unfollowed := true, recurses := true, named := ["unicode/utf8.first", "unicode/utf8.acceptRanges", "internal/bytealg.MaxLen"], plainKeys := false, apart := false, laid := [("unicode/utf8.acceptRanges", laid_unicode_utf8_acceptRanges), ("unicode/utf8.first", laid_unicode_utf8_first)] }
def RescueDuesSaid : Prop := rescueDuesRow.holds Tryz.pinned (OpenSpec.ofChange rescueDuesSpec)

/-- ITS FALSE NEIGHBOUR: 'it returns false'. Refute it at one input. -/
def rescueDuesWrong : ChangeSpec := { name := "rescueDues", fn := fun _ => fun
  | [d1, d2, d3] => { results := [.lit (.bool false)], args := [d1, d2, d3] }
  | _ => none }
def RescueDuesWrongFalsely : Prop := rescueDuesRow.holds Tryz.pinned (OpenSpec.ofChange rescueDuesWrong)

/-- 'telecinelaw04.RescueBest': WHATEVER THE INPUT: true; the input reads as it did. -/
def rescueBestSpec : ChangeSpec := { name := "rescueBest", fn := fun _ => fun
  | [d1, d2] => { results := [.lit (.bool true)], args := [d1, d2] }
  | _ => none }
def rescueBestRow : OpenClaim := { program := "ytcjmpdpgfmjcgaagreatdoor", sum := "f896e261961f572f27cfd1090297f76d0b6d4184326464225a26c40128136a79", func := "telecine/telecinelaw04.RescueBest", spec := "rescueBest", inPlace := ["internal/bytealg.CountString", "internal/bytealg.IndexByteString", "internal/bytealg.IndexString"], unfollowed := true, recurses := true, named := ["unicode/utf8.first", "unicode/utf8.acceptRanges", "internal/bytealg.MaxLen"], plainKeys := false, apart := false, laid := [("unicode/utf8.acceptRanges", laid_unicode_utf8_acceptRanges), ("unicode/utf8.first", laid_unicode_utf8_first)] }
def RescueBestSaid : Prop := rescueBestRow.holds Tryz.pinned (OpenSpec.ofChange rescueBestSpec)

/-- ITS FALSE NEIGHBOUR: 'it returns false'. Refute it at one input. -/
def rescueBestWrong : ChangeSpec := { name := "rescueBest", fn := fun _ => fun
  | [d1, d2] => { results := [.lit (.bool false)], args := [d1, d2] }
  | _ => none }
def RescueBestWrongFalsely : Prop := rescueBestRow.holds Tryz.pinned (OpenSpec.ofChange rescueBestWrong)

/-- 'telecinelaw04.RescueProves': WHATEVER THE INPUT: true; the input reads as it did. -/
def rescueProvesSpec : ChangeSpec := { name := "rescueProves", fn := fun _ => fun
  | [d1, d2, d3] => { results := [.lit (.bool true)], args := [d1, d2, d3] }
  | _ => none }
def rescueProvesRow : OpenClaim := { program := "ytcjmpdpgfmjcgaagreatdoor", sum := "f896e261961f572f27cfd1090297f76d0b6d4184326464225a26c40128136a79", func := "telecine/telecinelaw04.RescueProves", spec := "rescueProves", inPlace := ["internal/bytealg.CountString", "internal/bytealg.IndexByteString", "internal/bytealg.IndexString"], unfollowed := true, recurses := true, named := ["unicode/utf8.first", "unicode/utf8.acceptRanges", "internal/bytealg.MaxLen"], plainKeys := false, apart := false, laid := [("unicode/utf8.acceptRanges", laid_unicode_utf8_acceptRanges), ("unicode/utf8.first", laid_unicode_utf8_first)] }
def RescueProvesSaid : Prop := rescueProvesRow.holds Tryz.pinned (OpenSpec.ofChange rescueProvesSpec)

/-- ITS FALSE NEIGHBOUR: 'it returns false'. Refute it at one input. -/
def rescueProvesWrong : ChangeSpec := { name := "rescueProves", fn := fun _ => fun
  | [d1, d2, d3] => { results := [.lit (.bool false)], args := [d1, d2, d3] }
  | _ => none }
def RescueProvesWrongFalsely : Prop := rescueProvesRow.holds Tryz.pinned (OpenSpec.ofChange rescueProvesWrong)

/-- 'telecinelaw04.RescuePlaces': WHATEVER THE INPUT: true; the input reads as it did. -/
def rescuePlacesSpec : ChangeSpec := { name := "rescuePlaces", fn := fun _ => fun
  | [d] => { results := [.lit (.bool true)], args := [d] }
  | _ => none }
def rescuePlacesRow : OpenClaim := { program := "ytcjmpdpgfmjcgaagreatdoor", sum := "f896e261961f572f27cfd1090297f76d0b6d4184326464225a26c40128136a79", func := "telecine/telecinelaw04.RescuePlaces", spec := "rescuePlaces", inPlace := ["internal/bytealg.CountString", "internal/bytealg.IndexByteString", "internal/bytealg.IndexString"], unfollowed := true, recurses := true, named := ["unicode/utf8.first", "unicode/utf8.acceptRanges", "internal/bytealg.MaxLen"], plainKeys := false, apart := false, laid := [("unicode/utf8.acceptRanges", laid_unicode_utf8_acceptRanges), ("unicode/utf8.first", laid_unicode_utf8_first)] }
def RescuePlacesSaid : Prop := rescuePlacesRow.holds Tryz.pinned (OpenSpec.ofChange rescuePlacesSpec)

/-- ITS FALSE NEIGHBOUR: 'it returns false'. Refute it at one input. -/
def rescuePlacesWrong : ChangeSpec := { name := "rescuePlaces", fn := fun _ => fun
  | [d] => { results := [.lit (.bool false)], args := [d] }
  | _ => none }
def RescuePlacesWrongFalsely : Prop := rescuePlacesRow.holds Tryz.pinned (OpenSpec.ofChange rescuePlacesWrong)

/-- 'telecinelaw04.RescueHall': WHATEVER THE INPUT: true; the input reads as it did. -/
def rescueHallSpec : ChangeSpec := { name := "rescueHall", fn := fun _ => fun
  | [d1, d2, d3] => { results := [.lit (.bool true)], args := [d1, d2, d3] }
  | _ => none }
def rescueHallRow : OpenClaim := { program := "ytcjmpdpgfmjcgaagreatdoor", sum := "f896e261961f572f27cfd1090297f76d0b6d4184326464225a26c40128136a79", func := "telecine/telecinelaw04.RescueHall", spec := "rescueHall", inPlace := ["internal/bytealg.CountString", "internal/bytealg.IndexByteString", "internal/bytealg.IndexString"], unfollowed := true, recurses := true, named := ["unicode/utf8.first", "unicode/utf8.acceptRanges", "internal/bytealg.MaxLen"], plainKeys := false, apart := false, laid := [("unicode/utf8.acceptRanges", laid_unicode_utf8_acceptRanges), ("unicode/utf8.first", laid_unicode_utf8_first)] }
def RescueHallSaid : Prop := rescueHallRow.holds Tryz.pinned (OpenSpec.ofChange rescueHallSpec)

/-- ITS FALSE NEIGHBOUR: 'it returns false'. Refute it at one input. -/
def rescueHallWrong : ChangeSpec := { name := "rescueHall", fn := fun _ => fun
  | [d1, d2, d3] => { results := [.lit (.bool false)], args := [d1, d2, d3] }
  | _ => none }
def RescueHallWrongFalsely : Prop := rescueHallRow.holds Tryz.pinned (OpenSpec.ofChange rescueHallWrong)

/-- 'telecinelaw04.RescueMore': WHATEVER THE INPUT: true; the input reads as it did. -/
def rescueMoreSpec : ChangeSpec := { name := "rescueMore", fn := fun _ => fun
  | [d1, d2] => { results := [.lit (.bool true)], args := [d1, d2] }
  | _ => none }
def rescueMoreRow : OpenClaim := { program := "ytcjmpdpgfmjcgaagreatdoor", sum := "f896e261961f572f27cfd1090297f76d0b6d4184326464225a26c40128136a79", func := "telecine/telecinelaw04.RescueMore", spec := "rescueMore", inPlace := ["internal/bytealg.CountString", "internal/bytealg.IndexByteString", "internal/bytealg.IndexString"], unfollowed := true, recurses := true, named := ["unicode/utf8.first", "unicode/utf8.acceptRanges", "internal/bytealg.MaxLen"], plainKeys := false, apart := false, laid := [("unicode/utf8.acceptRanges", laid_unicode_utf8_acceptRanges), ("unicode/utf8.first", laid_unicode_utf8_first)] }
def RescueMoreSaid : Prop := rescueMoreRow.holds Tryz.pinned (OpenSpec.ofChange rescueMoreSpec)

/-- ITS FALSE NEIGHBOUR: 'it returns false'. Refute it at one input. -/
def rescueMoreWrong : ChangeSpec := { name := "rescueMore", fn := fun _ => fun
  | [d1, d2] => { results := [.lit (.bool false)], args := [d1, d2] }
  | _ => none }
def RescueMoreWrongFalsely : Prop := rescueMoreRow.holds Tryz.pinned (OpenSpec.ofChange rescueMoreWrong)

/-- 'telecinelaw04.RescueWithout': WHATEVER THE INPUT: true; the input reads as it did. -/
def rescueWithoutSpec : ChangeSpec := { name := "rescueWithout", fn := fun _ => fun
  | [d1, d2] => { results := [.lit (.bool true)], args := [d1, d2] }
  | _ => none }
def rescueWithoutRow : OpenClaim := { program := "ytcjmpdpgfmjcgaagreatdoor", sum := "f896e261961f572f27cfd1090297f76d0b6d4184326464225a26c40128136a79", func := "telecine/telecinelaw04.RescueWithout", spec := "rescueWithout", inPlace := ["internal/bytealg.CountString", "internal/bytealg.IndexByteString", "internal/bytealg.IndexString"], unfollowed := true, recurses := true, named := ["unicode/utf8.first", "unicode/utf8.acceptRanges", "internal/bytealg.MaxLen"], plainKeys := false, apart := false, laid := [("unicode/utf8.acceptRanges", laid_unicode_utf8_acceptRanges), ("unicode/utf8.first", laid_unicode_utf8_first)] }
def RescueWithoutSaid : Prop := rescueWithoutRow.holds Tryz.pinned (OpenSpec.ofChange rescueWithoutSpec)

/-- ITS FALSE NEIGHBOUR: 'it returns false'. Refute it at one input. -/
def rescueWithoutWrong : ChangeSpec := { name := "rescueWithout", fn := fun _ => fun
  | [d1, d2] => { results := [.lit (.bool false)], args := [d1, d2] }
  | _ => none }
def RescueWithoutWrongFalsely : Prop := rescueWithoutRow.holds Tryz.pinned (OpenSpec.ofChange rescueWithoutWrong)

/-- 'telecinelaw04.RescueRooms': WHATEVER THE INPUT: true; the input reads as it did. -/
def rescueRoomsSpec : ChangeSpec := { name := "rescueRooms", fn := fun _ => fun
  | [d1, d2] => { results := [.lit (.bool true)], args := [d1, d2] }
  | _ => none }
def rescueRoomsRow : OpenClaim := { program := "ytcjmpdpgfmjcgaagreatdoor", sum := "f896e261961f572f27cfd1090297f76d0b6d4184326464225a26c40128136a79", func := "telecine/telecinelaw04.RescueRooms", spec := "rescueRooms", inPlace := ["internal/bytealg.CountString", "internal/bytealg.IndexByteString", "internal/bytealg.IndexString"], unfollowed := true, recurses := true, named := ["unicode/utf8.first", "unicode/utf8.acceptRanges", "internal/bytealg.MaxLen"], plainKeys := false, apart := false, laid := [("unicode/utf8.acceptRanges", laid_unicode_utf8_acceptRanges), ("unicode/utf8.first", laid_unicode_utf8_first)] }
def RescueRoomsSaid : Prop := rescueRoomsRow.holds Tryz.pinned (OpenSpec.ofChange rescueRoomsSpec)

/-- ITS FALSE NEIGHBOUR: 'it returns false'. Refute it at one input. -/
def rescueRoomsWrong : ChangeSpec := { name := "rescueRooms", fn := fun _ => fun
  | [d1, d2] => { results := [.lit (.bool false)], args := [d1, d2] }
  | _ => none }
def RescueRoomsWrongFalsely : Prop := rescueRoomsRow.holds Tryz.pinned (OpenSpec.ofChange rescueRoomsWrong)

/-- 'telecinelaw04.RescueKnown': WHATEVER THE INPUT: true; the input reads as it did. -/
def rescueKnownSpec : ChangeSpec := { name := "rescueKnown", fn := fun _ => fun
  | [] => { results := [.lit (.bool true)], args := [] }
  | _ => none }
def rescueKnownRow : OpenClaim := { program := "ytcjmpdpgfmjcgaagreatdoor", sum := "f896e261961f572f27cfd1090297f76d0b6d4184326464225a26c40128136a79", func := "telecine/telecinelaw04.RescueKnown", spec := "rescueKnown", inPlace := ["internal/bytealg.CountString", "internal/bytealg.IndexByteString", "internal/bytealg.IndexString"], unfollowed := true, recurses := true, named := ["unicode/utf8.first", "unicode/utf8.acceptRanges", "internal/bytealg.MaxLen"], plainKeys := false, apart := false, laid := [("unicode/utf8.acceptRanges", laid_unicode_utf8_acceptRanges), ("unicode/utf8.first", laid_unicode_utf8_first)] }
def RescueKnownSaid : Prop := rescueKnownRow.holds Tryz.pinned (OpenSpec.ofChange rescueKnownSpec)

/-- ITS FALSE NEIGHBOUR: 'it returns false'. Refute it at one input. -/
def rescueKnownWrong : ChangeSpec := { name := "rescueKnown", fn := fun _ => fun
  | [] => { results := [.lit (.bool false)], args := [] }
  | _ => none }
def RescueKnownWrongFalsely : Prop := rescueKnownRow.holds Tryz.pinned (OpenSpec.ofChange rescueKnownWrong)

/-- 'telecinelaw04.RescueFurther': WHATEVER THE INPUT: true; the input reads as it did. -/
def rescueFurtherSpec : ChangeSpec := { name := "rescueFurther", fn := fun _ => fun
  | [d1, d2] => { results := [.lit (.bool true)], args := [d1, d2] }
  | _ => none }
def rescueFurtherRow : OpenClaim := { program := "ytcjmpdpgfmjcgaagreatdoor", sum := "f896e261961f572f27cfd1090297f76d0b6d4184326464225a26c40128136a79", func := "telecine/telecinelaw04.RescueFurther", spec := "rescueFurther", inPlace := ["internal/bytealg.CountString", "internal/bytealg.IndexByteString", "internal/bytealg.IndexString"], unfollowed := true, recurses := true, named := ["unicode/utf8.first", "unicode/utf8.acceptRanges", "internal/bytealg.MaxLen"], plainKeys := false, apart := false, laid := [("unicode/utf8.acceptRanges", laid_unicode_utf8_acceptRanges), ("unicode/utf8.first", laid_unicode_utf8_first)] }
def RescueFurtherSaid : Prop := rescueFurtherRow.holds Tryz.pinned (OpenSpec.ofChange rescueFurtherSpec)

/-- ITS FALSE NEIGHBOUR: 'it returns false'. Refute it at one input. -/
def rescueFurtherWrong : ChangeSpec := { name := "rescueFurther", fn := fun _ => fun
  | [d1, d2] => { results := [.lit (.bool false)], args := [d1, d2] }
  | _ => none }
def RescueFurtherWrongFalsely : Prop := rescueFurtherRow.holds Tryz.pinned (OpenSpec.ofChange rescueFurtherWrong)

/-- 'telecinelaw04.RescueInTime': WHATEVER THE INPUT: true; the input reads as it did. -/
def rescueInTimeSpec : ChangeSpec := { name := "rescueInTime", fn := fun _ => fun
  | [d1, d2, d3] => { results := [.lit (.bool true)], args := [d1, d2, d3] }
  | _ => none }
def rescueInTimeRow : OpenClaim := { program := "ytcjmpdpgfmjcgaagreatdoor", sum := "f896e261961f572f27cfd1090297f76d0b6d4184326464225a26c40128136a79", func := "telecine/telecinelaw04.RescueInTime", spec := "rescueInTime", inPlace := ["internal/bytealg.CountString", "internal/bytealg.IndexByteString", "internal/bytealg.IndexString"], unfollowed := true, recurses := true, named := ["unicode/utf8.first", "unicode/utf8.acceptRanges", "internal/bytealg.MaxLen"], plainKeys := false, apart := false, laid := [("unicode/utf8.acceptRanges", laid_unicode_utf8_acceptRanges), ("unicode/utf8.first", laid_unicode_utf8_first)] }
def RescueInTimeSaid : Prop := rescueInTimeRow.holds Tryz.pinned (OpenSpec.ofChange rescueInTimeSpec)

/-- ITS FALSE NEIGHBOUR: 'it returns false'. Refute it at one input. -/
def rescueInTimeWrong : ChangeSpec := { name := "rescueInTime", fn := fun _ => fun
  | [d1, d2, d3] => { results := [.lit (.bool false)], args := [d1, d2, d3] }
  | _ => none }
def RescueInTimeWrongFalsely : Prop := rescueInTimeRow.holds Tryz.pinned (OpenSpec.ofChange rescueInTimeWrong)

/-- 'telecinetop.TopCopied': WHATEVER THE INPUT: true; the input reads as it did. -/
def topCopiedSpec : ChangeSpec := { name := "topCopied", fn := fun _ => fun
  | [d1, d2] => { results := [.lit (.bool true)], args := [d1, d2] }
  | _ => none }
def topCopiedRow : OpenClaim := { program := "ytcjmpdpgfmjcgaagreatdoor", sum := "f896e261961f572f27cfd1090297f76d0b6d4184326464225a26c40128136a79", func := "telecine/telecinetop.TopCopied", spec := "topCopied", inPlace := ["internal/bytealg.CountString", "internal/bytealg.IndexByteString", "internal/bytealg.IndexString"], unfollowed := true, recurses := true, named := ["unicode/utf8.first", "unicode/utf8.acceptRanges", "internal/bytealg.MaxLen"], plainKeys := false, apart := false, laid := [("unicode/utf8.acceptRanges", laid_unicode_utf8_acceptRanges), ("unicode/utf8.first", laid_unicode_utf8_first)] }
def TopCopiedSaid : Prop := topCopiedRow.holds Tryz.pinned (OpenSpec.ofChange topCopiedSpec)

/-- ITS FALSE NEIGHBOUR: 'it returns false'. Refute it at one input. -/
def topCopiedWrong : ChangeSpec := { name := "topCopied", fn := fun _ => fun
  | [d1, d2] => { results := [.lit (.bool false)], args := [d1, d2] }
  | _ => none }
def TopCopiedWrongFalsely : Prop := topCopiedRow.holds Tryz.pinned (OpenSpec.ofChange topCopiedWrong)

/- THE SECOND FORM. 'bulk': how many values and letters a reading holds, each counted each time it is reached (what is shared counts as often as it is met; a slice's spare places count too). A statement '..UptoSaid' is the law's where the arguments, and the package variables that the reading takes, are together of bulk at most 1048576: NARROWER than '..Said'. Prove '..Said' where nothing that the law and all that it calls make is longer than what came in: it says more and counts as full. Else prove '..UptoSaid'. A law counts once. -/
mutual
def uptoBulk {H : Type} : DataW H → Nat
  | .lit (.string bytes) => bytes.length + 1
  | .lit _ => 1
  | .nil => 1
  | .ptr d => uptoBulk d + 1
  | .slice elems spare => uptoBulkAll elems + uptoBulkAll spare + 1
  | .agg parts => uptoBulkAll parts + 1
  | .iface _ d => uptoBulk d + 1
  | .map entries => uptoBulkEntries entries + 1
  | .held _ => 1
def uptoBulkAll {H : Type} : List (DataW H) → Nat
  | [] => 0
  | d :: r => uptoBulk d + uptoBulkAll r
def uptoBulkEntries {H : Type} : List (Lit × DataW H) → Nat
  | [] => 0
  | x :: r => uptoBulkEntry x + uptoBulkEntries r
def uptoBulkEntry {H : Type} : Lit × DataW H → Nat
  | (.string bytes, d) => bytes.length + uptoBulk d + 1
  | (_, d) => uptoBulk d + 1
 end
def uptoSmall : (H : Type) → List (DataW H) → Bool := fun _ ds => decide (uptoBulkAll ds ≤ 1048576)
def OpenSpec.upto (s : _root_.Go.ChangeSpec) : _root_.Go.OpenSpec := { _root_.Go.OpenSpec.ofChange s with cond := some uptoSmall }

/-- 'telecinelaw04.RescueChecks', WHERE WHAT IT READS IS OF BULK AT MOST 1048576: true; the input reads as it did. -/
def rescueChecksUptoRow : OpenClaim := { program := "ytcjmpdpgfmjcgaagreatdoor", sum := "f896e261961f572f27cfd1090297f76d0b6d4184326464225a26c40128136a79", func := "telecine/telecinelaw04.RescueChecks", spec := "rescueChecks", inPlace := ["internal/bytealg.CountString", "internal/bytealg.IndexByteString", "internal/bytealg.IndexString"], unfollowed := true, recurses := true, named := ["unicode/utf8.first", "unicode/utf8.acceptRanges", "internal/bytealg.MaxLen"], plainKeys := false, apart := false, laid := [("unicode/utf8.acceptRanges", laid_unicode_utf8_acceptRanges), ("unicode/utf8.first", laid_unicode_utf8_first)], narrowed := true }
def RescueChecksUptoSaid : Prop := rescueChecksUptoRow.holds Tryz.pinned (OpenSpec.upto rescueChecksSpec)

/-- 'telecinelaw04.RescueFits', WHERE WHAT IT READS IS OF BULK AT MOST 1048576: true; the input reads as it did. -/
def rescueFitsUptoRow : OpenClaim := { program := "ytcjmpdpgfmjcgaagreatdoor", sum := "f896e261961f572f27cfd1090297f76d0b6d4184326464225a26c40128136a79", func := "telecine/telecinelaw04.RescueFits", spec := "rescueFits", inPlace := ["internal/bytealg.CountString", "internal/bytealg.IndexByteString", "internal/bytealg.IndexString"], unfollowed := true, recurses := true, named := ["unicode/utf8.first", "unicode/utf8.acceptRanges", "internal/bytealg.MaxLen"], plainKeys := false, apart := false, laid := [("unicode/utf8.acceptRanges", laid_unicode_utf8_acceptRanges), ("unicode/utf8.first", laid_unicode_utf8_first)], narrowed := true }
def RescueFitsUptoSaid : Prop := rescueFitsUptoRow.holds Tryz.pinned (OpenSpec.upto rescueFitsSpec)

/-- 'telecinelaw04.RescuePlans', WHERE WHAT IT READS IS OF BULK AT MOST 1048576: true; the input reads as it did. -/
def rescuePlansUptoRow : OpenClaim := { program := "ytcjmpdpgfmjcgaagreatdoor", sum := "f896e261961f572f27cfd1090297f76d0b6d4184326464225a26c40128136a79", func := "telecine/telecinelaw04.RescuePlans", spec := "rescuePlans", inPlace := ["internal/bytealg.CountString", "internal/bytealg.IndexByteString", "internal/bytealg.IndexString"], unfollowed := true, recurses := true, named := ["unicode/utf8.first", "unicode/utf8.acceptRanges", "internal/bytealg.MaxLen"], plainKeys := false, apart := false, laid := [("unicode/utf8.acceptRanges", laid_unicode_utf8_acceptRanges), ("unicode/utf8.first", laid_unicode_utf8_first)], narrowed := true }
def RescuePlansUptoSaid : Prop := rescuePlansUptoRow.holds Tryz.pinned (OpenSpec.upto rescuePlansSpec)

/-- 'telecinelaw04.RescueJudges', WHERE WHAT IT READS IS OF BULK AT MOST 1048576: true; the input reads as it did. -/
def rescueJudgesUptoRow : OpenClaim := { program := "ytcjmpdpgfmjcgaagreatdoor", sum := "f896e261961f572f27cfd1090297f76d0b6d4184326464225a26c40128136a79", func := "telecine/telecinelaw04.RescueJudges", spec := "rescueJudges", inPlace := ["internal/bytealg.CountString", "internal/bytealg.IndexByteString", "internal/bytealg.IndexString"], unfollowed := true, recurses := true, named := ["unicode/utf8.first", "unicode/utf8.acceptRanges", "internal/bytealg.MaxLen"], plainKeys := false, apart := false, laid := [("unicode/utf8.acceptRanges", laid_unicode_utf8_acceptRanges), ("unicode/utf8.first", laid_unicode_utf8_first)], narrowed := true }
def RescueJudgesUptoSaid : Prop := rescueJudgesUptoRow.holds Tryz.pinned (OpenSpec.upto rescueJudgesSpec)

/-- 'telecinelaw04.RescueDues', WHERE WHAT IT READS IS OF BULK AT MOST 1048576: true; the input reads as it did. -/
def rescueDuesUptoRow : OpenClaim := { program := "ytcjmpdpgfmjcgaagreatdoor", sum := "f896e261961f572f27cfd1090297f76d0b6d4184326464225a26c40128136a79", func := "telecine/telecinelaw04.RescueDues", spec := "rescueDues", inPlace := ["internal/bytealg.CountString", "internal/bytealg.IndexByteString", "internal/bytealg.IndexString"], unfollowed := true, recurses := true, named := ["unicode/utf8.first", "unicode/utf8.acceptRanges", "internal/bytealg.MaxLen"], plainKeys := false, apart := false, laid := [("unicode/utf8.acceptRanges", laid_unicode_utf8_acceptRanges), ("unicode/utf8.first", laid_unicode_utf8_first)], narrowed := true }
def RescueDuesUptoSaid : Prop := rescueDuesUptoRow.holds Tryz.pinned (OpenSpec.upto rescueDuesSpec)

/-- 'telecinelaw04.RescueBest', WHERE WHAT IT READS IS OF BULK AT MOST 1048576: true; the input reads as it did. -/
def rescueBestUptoRow : OpenClaim := { program := "ytcjmpdpgfmjcgaagreatdoor", sum := "f896e261961f572f27cfd1090297f76d0b6d4184326464225a26c40128136a79", func := "telecine/telecinelaw04.RescueBest", spec := "rescueBest", inPlace := ["internal/bytealg.CountString", "internal/bytealg.IndexByteString", "internal/bytealg.IndexString"], unfollowed := true, recurses := true, named := ["unicode/utf8.first", "unicode/utf8.acceptRanges", "internal/bytealg.MaxLen"], plainKeys := false, apart := false, laid := [("unicode/utf8.acceptRanges", laid_unicode_utf8_acceptRanges), ("unicode/utf8.first", laid_unicode_utf8_first)], narrowed := true }
def RescueBestUptoSaid : Prop := rescueBestUptoRow.holds Tryz.pinned (OpenSpec.upto rescueBestSpec)

/-- 'telecinelaw04.RescueProves', WHERE WHAT IT READS IS OF BULK AT MOST 1048576: true; the input reads as it did. -/
def rescueProvesUptoRow : OpenClaim := { program := "ytcjmpdpgfmjcgaagreatdoor", sum := "f896e261961f572f27cfd1090297f76d0b6d4184326464225a26c40128136a79", func := "telecine/telecinelaw04.RescueProves", spec := "rescueProves", inPlace := ["internal/bytealg.CountString", "internal/bytealg.IndexByteString", "internal/bytealg.IndexString"], unfollowed := true, recurses := true, named := ["unicode/utf8.first", "unicode/utf8.acceptRanges", "internal/bytealg.MaxLen"], plainKeys := false, apart := false, laid := [("unicode/utf8.acceptRanges", laid_unicode_utf8_acceptRanges), ("unicode/utf8.first", laid_unicode_utf8_first)], narrowed := true }
def RescueProvesUptoSaid : Prop := rescueProvesUptoRow.holds Tryz.pinned (OpenSpec.upto rescueProvesSpec)

/-- 'telecinelaw04.RescuePlaces', WHERE WHAT IT READS IS OF BULK AT MOST 1048576: true; the input reads as it did. -/
def rescuePlacesUptoRow : OpenClaim := { program := "ytcjmpdpgfmjcgaagreatdoor", sum := "f896e261961f572f27cfd1090297f76d0b6d4184326464225a26c40128136a79", func := "telecine/telecinelaw04.RescuePlaces", spec := "rescuePlaces", inPlace := ["internal/bytealg.CountString", "internal/bytealg.IndexByteString", "internal/bytealg.IndexString"], unfollowed := true, recurses := true, named := ["unicode/utf8.first", "unicode/utf8.acceptRanges", "internal/bytealg.MaxLen"], plainKeys := false, apart := false, laid := [("unicode/utf8.acceptRanges", laid_unicode_utf8_acceptRanges), ("unicode/utf8.first", laid_unicode_utf8_first)], narrowed := true }
def RescuePlacesUptoSaid : Prop := rescuePlacesUptoRow.holds Tryz.pinned (OpenSpec.upto rescuePlacesSpec)

/-- 'telecinelaw04.RescueHall', WHERE WHAT IT READS IS OF BULK AT MOST 1048576: true; the input reads as it did. -/
def rescueHallUptoRow : OpenClaim := { program := "ytcjmpdpgfmjcgaagreatdoor", sum := "f896e261961f572f27cfd1090297f76d0b6d4184326464225a26c40128136a79", func := "telecine/telecinelaw04.RescueHall", spec := "rescueHall", inPlace := ["internal/bytealg.CountString", "internal/bytealg.IndexByteString", "internal/bytealg.IndexString"], unfollowed := true, recurses := true, named := ["unicode/utf8.first", "unicode/utf8.acceptRanges", "internal/bytealg.MaxLen"], plainKeys := false, apart := false, laid := [("unicode/utf8.acceptRanges", laid_unicode_utf8_acceptRanges), ("unicode/utf8.first", laid_unicode_utf8_first)], narrowed := true }
def RescueHallUptoSaid : Prop := rescueHallUptoRow.holds Tryz.pinned (OpenSpec.upto rescueHallSpec)

/-- 'telecinelaw04.RescueMore', WHERE WHAT IT READS IS OF BULK AT MOST 1048576: true; the input reads as it did. -/
def rescueMoreUptoRow : OpenClaim := { program := "ytcjmpdpgfmjcgaagreatdoor", sum := "f896e261961f572f27cfd1090297f76d0b6d4184326464225a26c40128136a79", func := "telecine/telecinelaw04.RescueMore", spec := "rescueMore", inPlace := ["internal/bytealg.CountString", "internal/bytealg.IndexByteString", "internal/bytealg.IndexString"], unfollowed := true, recurses := true, named := ["unicode/utf8.first", "unicode/utf8.acceptRanges", "internal/bytealg.MaxLen"], plainKeys := false, apart := false, laid := [("unicode/utf8.acceptRanges", laid_unicode_utf8_acceptRanges), ("unicode/utf8.first", laid_unicode_utf8_first)], narrowed := true }
def RescueMoreUptoSaid : Prop := rescueMoreUptoRow.holds Tryz.pinned (OpenSpec.upto rescueMoreSpec)

/-- 'telecinelaw04.RescueWithout', WHERE WHAT IT READS IS OF BULK AT MOST 1048576: true; the input reads as it did. -/
def rescueWithoutUptoRow : OpenClaim := { program := "ytcjmpdpgfmjcgaagreatdoor", sum := "f896e261961f572f27cfd1090297f76d0b6d4184326464225a26c40128136a79", func := "telecine/telecinelaw04.RescueWithout", spec := "rescueWithout", inPlace := ["internal/bytealg.CountString", "internal/bytealg.IndexByteString", "internal/bytealg.IndexString"], unfollowed := true, recurses := true, named := ["unicode/utf8.first", "unicode/utf8.acceptRanges", "internal/bytealg.MaxLen"], plainKeys := false, apart := false, laid := [("unicode/utf8.acceptRanges", laid_unicode_utf8_acceptRanges), ("unicode/utf8.first", laid_unicode_utf8_first)], narrowed := true }
def RescueWithoutUptoSaid : Prop := rescueWithoutUptoRow.holds Tryz.pinned (OpenSpec.upto rescueWithoutSpec)

/-- 'telecinelaw04.RescueRooms', WHERE WHAT IT READS IS OF BULK AT MOST 1048576: true; the input reads as it did. -/
def rescueRoomsUptoRow : OpenClaim := { program := "ytcjmpdpgfmjcgaagreatdoor", sum := "f896e261961f572f27cfd1090297f76d0b6d4184326464225a26c40128136a79", func := "telecine/telecinelaw04.RescueRooms", spec := "rescueRooms", inPlace := ["internal/bytealg.CountString", "internal/bytealg.IndexByteString", "internal/bytealg.IndexString"], unfollowed := true, recurses := true, named := ["unicode/utf8.first", "unicode/utf8.acceptRanges", "internal/bytealg.MaxLen"], plainKeys := false, apart := false, laid := [("unicode/utf8.acceptRanges", laid_unicode_utf8_acceptRanges), ("unicode/utf8.first", laid_unicode_utf8_first)], narrowed := true }
def RescueRoomsUptoSaid : Prop := rescueRoomsUptoRow.holds Tryz.pinned (OpenSpec.upto rescueRoomsSpec)

/-- 'telecinelaw04.RescueKnown', WHERE WHAT IT READS IS OF BULK AT MOST 1048576: true; the input reads as it did. -/
def rescueKnownUptoRow : OpenClaim := { program := "ytcjmpdpgfmjcgaagreatdoor", sum := "f896e261961f572f27cfd1090297f76d0b6d4184326464225a26c40128136a79", func := "telecine/telecinelaw04.RescueKnown", spec := "rescueKnown", inPlace := ["internal/bytealg.CountString", "internal/bytealg.IndexByteString", "internal/bytealg.IndexString"], unfollowed := true, recurses := true, named := ["unicode/utf8.first", "unicode/utf8.acceptRanges", "internal/bytealg.MaxLen"], plainKeys := false, apart := false, laid := [("unicode/utf8.acceptRanges", laid_unicode_utf8_acceptRanges), ("unicode/utf8.first", laid_unicode_utf8_first)], narrowed := true }
def RescueKnownUptoSaid : Prop := rescueKnownUptoRow.holds Tryz.pinned (OpenSpec.upto rescueKnownSpec)

/-- 'telecinelaw04.RescueFurther', WHERE WHAT IT READS IS OF BULK AT MOST 1048576: true; the input reads as it did. -/
def rescueFurtherUptoRow : OpenClaim := { program := "ytcjmpdpgfmjcgaagreatdoor", sum := "f896e261961f572f27cfd1090297f76d0b6d4184326464225a26c40128136a79", func := "telecine/telecinelaw04.RescueFurther", spec := "rescueFurther", inPlace := ["internal/bytealg.CountString", "internal/bytealg.IndexByteString", "internal/bytealg.IndexString"], unfollowed := true, recurses := true, named := ["unicode/utf8.first", "unicode/utf8.acceptRanges", "internal/bytealg.MaxLen"], plainKeys := false, apart := false, laid := [("unicode/utf8.acceptRanges", laid_unicode_utf8_acceptRanges), ("unicode/utf8.first", laid_unicode_utf8_first)], narrowed := true }
def RescueFurtherUptoSaid : Prop := rescueFurtherUptoRow.holds Tryz.pinned (OpenSpec.upto rescueFurtherSpec)

/-- 'telecinelaw04.RescueInTime', WHERE WHAT IT READS IS OF BULK AT MOST 1048576: true; the input reads as it did. -/
def rescueInTimeUptoRow : OpenClaim := { program := "ytcjmpdpgfmjcgaagreatdoor", sum := "f896e261961f572f27cfd1090297f76d0b6d4184326464225a26c40128136a79", func := "telecine/telecinelaw04.RescueInTime", spec := "rescueInTime", inPlace := ["internal/bytealg.CountString", "internal/bytealg.IndexByteString", "internal/bytealg.IndexString"], unfollowed := true, recurses := true, named := ["unicode/utf8.first", "unicode/utf8.acceptRanges", "internal/bytealg.MaxLen"], plainKeys := false, apart := false, laid := [("unicode/utf8.acceptRanges", laid_unicode_utf8_acceptRanges), ("unicode/utf8.first", laid_unicode_utf8_first)], narrowed := true }
def RescueInTimeUptoSaid : Prop := rescueInTimeUptoRow.holds Tryz.pinned (OpenSpec.upto rescueInTimeSpec)

/-- 'telecinetop.TopCopied', WHERE WHAT IT READS IS OF BULK AT MOST 1048576: true; the input reads as it did. -/
def topCopiedUptoRow : OpenClaim := { program := "ytcjmpdpgfmjcgaagreatdoor", sum := "f896e261961f572f27cfd1090297f76d0b6d4184326464225a26c40128136a79", func := "telecine/telecinetop.TopCopied", spec := "topCopied", inPlace := ["internal/bytealg.CountString", "internal/bytealg.IndexByteString", "internal/bytealg.IndexString"], unfollowed := true, recurses := true, named := ["unicode/utf8.first", "unicode/utf8.acceptRanges", "internal/bytealg.MaxLen"], plainKeys := false, apart := false, laid := [("unicode/utf8.acceptRanges", laid_unicode_utf8_acceptRanges), ("unicode/utf8.first", laid_unicode_utf8_first)], narrowed := true }
def TopCopiedUptoSaid : Prop := topCopiedUptoRow.holds Tryz.pinned (OpenSpec.upto topCopiedSpec)

end Rows
end Go.Proofs.YtcjmpdpgfmjcgaaGreatDoor
