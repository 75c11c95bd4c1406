/- Y8: RescuePlans: its contract, for any workshop. -/
import Derived.Test.YtcjmpdpgfmjcgaaGreatDoorHG2
import Derived.Test.YtcjmpdpgfmjcgaaGreatDoorHG20
import Derived.Test.YtcjmpdpgfmjcgaaGreatDoorHG15
import Derived.Test.YtcjmpdpgfmjcgaaGreatDoorHG21
import Derived.Test.YtcjmpdpgfmjcgaaGreatDoorHG8
namespace Go.Dw
open Go Go.Dx Go.Proofs Go.Mt
set_option maxRecDepth 100000
end Go.Dw
/- Y9: RescueBest: its contract, for any workshop and turns. -/
namespace Go.Dw
open Go Go.Dx Go.Proofs Go.Mt
set_option maxRecDepth 100000
end Go.Dw
