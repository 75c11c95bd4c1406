/- L1: ScreenChecks: its contract, for any task. -/
import Derived.Test.YtfgeelpahicelaaGreatDoorXG2
import Derived.Test.YtfgeelpahicelaaGreatDoorXG9
import Derived.Test.YtfgeelpahicelaaGreatDoorXRunA
import Derived.Test.YtfgeelpahicelaaGreatDoorXG10
set_option linter.unusedVariables false
set_option linter.unusedSimpArgs false
namespace Go.Dw
open Go Go.Dx Go.Proofs
set_option maxRecDepth 100000
theorem ZMP {h:Heap}(hT:TabAt spTab h):Sv Tryz.prog 23 [] h (RetP fun v h'=>v=.bool true/\h'=h):=ZRY Go.Dx.awake hT
end Go.Dw
