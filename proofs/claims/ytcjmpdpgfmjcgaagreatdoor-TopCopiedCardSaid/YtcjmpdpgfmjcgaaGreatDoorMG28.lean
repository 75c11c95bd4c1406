/- Y8: RescuePlans: its contract, for any workshop. -/
import Derived.Test.YtcjmpdpgfmjcgaaGreatDoorMG2
import Derived.Test.YtcjmpdpgfmjcgaaGreatDoorMG20
import Derived.Test.YtcjmpdpgfmjcgaaGreatDoorMG15
import Derived.Test.YtcjmpdpgfmjcgaaGreatDoorMG25
import Derived.Test.YtcjmpdpgfmjcgaaGreatDoorMG8
namespace Go.Dw
open Go Go.Dx Go.Proofs Go.Mt
set_option maxRecDepth 100000
end Go.Dw
/- Y9: RescueBest: its contract, for any workshop and turns. -/
namespace Go.Dw
open Go Go.Dx Go.Proofs Go.Mt
set_option maxRecDepth 100000
end Go.Dw
