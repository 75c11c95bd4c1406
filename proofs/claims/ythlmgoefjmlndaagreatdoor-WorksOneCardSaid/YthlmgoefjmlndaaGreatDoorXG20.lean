/- H1: parts of slices of records; the reference's list of keys that is looked through. -/
import Derived.Test.YthlmgoefjmlndaaGreatDoorXG2
import Derived.Test.YthlmgoefjmlndaaGreatDoorXG19
import Derived.Test.YthlmgoefjmlndaaGreatDoorXG8
import Derived.Test.YthlmgoefjmlndaaGreatDoorXG18
set_option linter.unusedVariables false
set_option linter.unusedSimpArgs false
namespace Go.Dw
open Go Go.Dx Go.Proofs
set_option maxRecDepth 100000
section
variable {P:Program}{m:Mem}{h:Heap}{d:Option Tmp}{ty:TypeId}{pos:String}{af:Array Edge}{gu:Option (Nat×Bool)}
end
end Go.Dw
namespace Go.Dw
open Go Go.Dx Go.Proofs
set_option maxRecDepth 100000
def ZTK (L:List WkR)(v:Value)(h':Heap):Prop:=∃a af,v=.tuple ⟨[.slice a (ZAn L).length (ZAn L).length,.slice af (ZBZ L).length (ZBZ L).length]⟩/\SrcK rowW 6 h' a (ZAn L)/\SrcK rowK 2 h' af (ZBZ L)
end Go.Dw
