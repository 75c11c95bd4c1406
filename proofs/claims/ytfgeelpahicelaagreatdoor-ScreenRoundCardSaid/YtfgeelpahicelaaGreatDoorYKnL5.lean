/- KnL5: what a row's condition says of the library's table of powers of ten. -/
import Derived.Test.YtfgeelpahicelaaGreatDoorYKnL4
import Derived.Test.YtfgeelpahicelaaGreatDoorYG9
set_option linter.unusedVariables false
set_option linter.unusedSimpArgs false
namespace Go.Proofs.YtfgeelpahicelaaGreatDoor
open Go.ChangeShapes Go.WideShapes Go.ChangeAt Go.RowKit
set_option maxRecDepth 100000
end Go.Proofs.YtfgeelpahicelaaGreatDoor
