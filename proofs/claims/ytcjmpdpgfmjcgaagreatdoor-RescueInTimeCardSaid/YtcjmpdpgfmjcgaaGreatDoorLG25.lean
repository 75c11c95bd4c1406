/- L1: RescueChecks: its contract, for any workshop. -/
import Derived.Test.YtcjmpdpgfmjcgaaGreatDoorLG2
import Derived.Test.YtcjmpdpgfmjcgaaGreatDoorLG5
import Derived.Test.YtcjmpdpgfmjcgaaGreatDoorLRunA
import Derived.Test.YtcjmpdpgfmjcgaaGreatDoorLG24
namespace Go.Dw
open Go Go.Dx Go.Proofs
set_option maxRecDepth 100000
theorem awake_sv (h : Heap) : Sv Tryz.prog 21 [] h (RetP fun v h' => v = .bool true /\ h' = h) := Sv_orc Go.Dx.awake h
section
variable {H : Type} {enc : TypeId × Value -> H} {W : World} {cs : List Value}
end
end Go.Dw
