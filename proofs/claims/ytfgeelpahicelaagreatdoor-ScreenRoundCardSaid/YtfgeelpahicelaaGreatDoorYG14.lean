/- B1: contracts: cuts: bench.After, telecineref05.After. -/
import Derived.Test.YtfgeelpahicelaaGreatDoorYG2
import Derived.Test.YtfgeelpahicelaaGreatDoorYG5
import Derived.Test.YtfgeelpahicelaaGreatDoorYG13
set_option linter.unusedVariables false
set_option linter.unusedSimpArgs false
namespace Go.Dw
open Go Go.Dx Go.Proofs
set_option maxRecDepth 100000
structure Cut.Fit (c:Cut):Prop where
 a:I64 c.a
 b:I64 c.b
def ZO3 (n:Int)(cs:List Cut)(i:Int):Int×Int:=if (cutS n cs).2≠0 then (0,(cutS n cs).2) else if i<0\/n-1<i then (0,7) else match ZJF cs i with|none=>(0,4)|some m=>(m,0)
end Go.Dw
