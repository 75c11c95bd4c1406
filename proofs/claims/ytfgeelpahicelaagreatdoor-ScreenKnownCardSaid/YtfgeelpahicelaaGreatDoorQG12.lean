/- L5: ScreenKnown: its contract. -/
import Derived.Test.YtfgeelpahicelaaGreatDoorQG11
import Derived.Test.YtfgeelpahicelaaGreatDoorQRunK
set_option linter.unusedVariables false
set_option linter.unusedSimpArgs false
namespace Go.Dw
open Go Go.Dx Go.Proofs
set_option maxRecDepth 100000
theorem screenKnown_sv {h:Heap}(hT:TabAt spTab h):Sv Tryz.prog 15 [] h (RetP fun v h'=>v=.bool true/\Ext h h'):=Sv.grows (Sv_orcT Go.Dx.known hT)
end Go.Dw
