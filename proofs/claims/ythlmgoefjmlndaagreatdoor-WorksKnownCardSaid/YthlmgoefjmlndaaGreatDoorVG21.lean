/- H1: parts of slices of records; the reference's list of keys that is looked through. -/
import Derived.Test.YthlmgoefjmlndaaGreatDoorVG2
import Derived.Test.YthlmgoefjmlndaaGreatDoorVG20
import Derived.Test.YthlmgoefjmlndaaGreatDoorVG12
import Derived.Test.YthlmgoefjmlndaaGreatDoorVG19
set_option linter.unusedVariables false
set_option linter.unusedSimpArgs false
namespace Go.Dw
open Go Go.Dx Go.Proofs
set_option maxRecDepth 100000
section
variable {P:Program}{m:Mem}{h:Heap}{d:Option Tmp}{ty:TypeId}{pos:String}{af:Array Edge}{gu:Option (Nat×Bool)}
end
end Go.Dw
namespace Go.Dw
open Go Go.Dx Go.Proofs
set_option maxRecDepth 100000
def ZTN (L:List WkR)(v:Value)(h':Heap):Prop:=∃a af,v=.tuple ⟨[.slice a (ZAZ L).length (ZAZ L).length,.slice af (ZBU L).length (ZBU L).length]⟩/\SrcK rowW 6 h' a (ZAZ L)/\SrcK rowK 2 h' af (ZBU L)
end Go.Dw
