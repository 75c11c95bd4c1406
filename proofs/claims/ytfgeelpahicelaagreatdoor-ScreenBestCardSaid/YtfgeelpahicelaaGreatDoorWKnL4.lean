/- KnL4: what a row's condition says of the library's tables of runes and spaces. -/
import Derived.Lib.LaidU8
import Derived.Test.YtfgeelpahicelaaGreatDoorWKnL3
import Derived.Test.YtfgeelpahicelaaGreatDoorWG16
set_option linter.unusedVariables false
set_option linter.unusedSimpArgs false
namespace Go.Proofs.YtfgeelpahicelaaGreatDoor
open Go.ChangeShapes Go.WideShapes Go.ChangeAt Go.RowKit
set_option maxRecDepth 100000
end Go.Proofs.YtfgeelpahicelaaGreatDoor
