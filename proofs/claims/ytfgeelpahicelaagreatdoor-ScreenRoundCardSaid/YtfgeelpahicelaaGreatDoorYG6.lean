/- N1: the two ways to tell a name agree. -/
import Derived.Test.YtfgeelpahicelaaGreatDoorYG4
set_option linter.unusedVariables false
set_option linter.unusedSimpArgs false
namespace Go.Dw
def ZOw (l:List UInt8):Bool:=(ZJC l).all fun p=>!(decide (p=[]) || !p.all al)
def go (b:Bool):List UInt8->Bool
 | []=>!b
 | c::l=>if c=dash then !b && go true l else al c && go false l
end Go.Dw
