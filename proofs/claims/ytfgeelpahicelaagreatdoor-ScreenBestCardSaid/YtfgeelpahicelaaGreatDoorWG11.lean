/- L1: ScreenChecks: its contract, for any task. -/
import Derived.Test.YtfgeelpahicelaaGreatDoorWG2
import Derived.Test.YtfgeelpahicelaaGreatDoorWG9
import Derived.Test.YtfgeelpahicelaaGreatDoorWRunA
import Derived.Test.YtfgeelpahicelaaGreatDoorWG10
set_option linter.unusedVariables false
set_option linter.unusedSimpArgs false
namespace Go.Dw
open Go Go.Dx Go.Proofs
set_option maxRecDepth 100000
theorem awake_sv {h:Heap}(hT:TabAt spTab h):Sv Tryz.prog 23 [] h (RetP fun v h'=>v=.bool true/\h'=h):=Sv_orcT Go.Dx.awake hT
end Go.Dw
/- L2: ScreenMays: its contract, for any task and show. -/
namespace Go.Dw
open Go Go.Dx Go.Proofs
set_option maxRecDepth 100000
end Go.Dw
