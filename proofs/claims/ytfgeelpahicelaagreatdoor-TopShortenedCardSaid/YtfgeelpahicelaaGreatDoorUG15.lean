/- L9: ScreenTitles: its contract, for any subtitles, cuts, speed and rate. -/
import Derived.Test.YtfgeelpahicelaaGreatDoorUG2
import Derived.Test.YtfgeelpahicelaaGreatDoorUG11
import Derived.Test.YtfgeelpahicelaaGreatDoorUG14
set_option linter.unusedVariables false
set_option linter.unusedSimpArgs false
namespace Go.Dw
open Go Go.Dx Go.Proofs
set_option maxRecDepth 100000
def retL (n:Int)(cs:List Cut)(l:List Ttl):List Ttl:=if retErr n cs l=0 then retimeS cs l else []
def unL (l:List Ttl)(speed rate:Int):List Int:=if unErr l speed rate=0 then (unreadS l speed rate).map fun n:Nat=>(n:Int) else []
end Go.Dw
