/- GS: contracts: the library's sorting of loans. -/
import Derived.Test.YtfgeelpahicelaaGreatDoorYG9
import Derived.Test.YtfgeelpahicelaaGreatDoorYG7
import Derived.Test.YtfgeelpahicelaaGreatDoorYG2
set_option linter.unusedVariables false
set_option linter.unusedSimpArgs false
namespace Go.Dw
open Go Go.Dx Go.Proofs Go.Sort Go.RowKit Go.Lib
set_option maxRecDepth 100000
section
variable {α:Type} [Inhabited α]{enc:α->Value}{w:World}{blk n:Nat}{os:Array Obj}{c:Array Value}{el:TypeId}{d:Array α}
end
def ZOh (x:ScL):List Value:=[i64 x.print,i64 x.venue,i64 x.days.lo,i64 x.days.hi]
def ZNV:Type:={ x:ScL // 0<=x.days.lo/\x.days.lo<=80000 }
instance:Inhabited ZNV:=⟨⟨⟨0,0,⟨0,0⟩⟩,by decide⟩⟩
def encN (x:ZNV):List Value:=ZOh x.1
def cfN (x y:ZNV):Int:=x.1.days.lo-y.1.days.lo
end Go.Dw
namespace Go.Dw
open Go Go.Dx Go.Proofs
set_option maxRecDepth 100000
end Go.Dw
