/- H1: parts of slices of records; the reference's list of keys that is looked through. -/
import Derived.Test.YthlmgoefjmlndaaGreatDoorWG2
import Derived.Test.YthlmgoefjmlndaaGreatDoorWG19
import Derived.Test.YthlmgoefjmlndaaGreatDoorWG8
import Derived.Test.YthlmgoefjmlndaaGreatDoorWG18
set_option linter.unusedVariables false
set_option linter.unusedSimpArgs false
namespace Go.Dw
open Go Go.Dx Go.Proofs
set_option maxRecDepth 100000
section
variable {P:Program}{m:Mem}{h:Heap}{d:Option Tmp}{ty:TypeId}{pos:String}{af:Array Edge}{gu:Option (Nat×Bool)}
end
end Go.Dw
namespace Go.Dw
open Go Go.Dx Go.Proofs
set_option maxRecDepth 100000
def ZTi (L:List WkR)(v:Value)(h':Heap):Prop:=∃a af,v=.tuple ⟨[.slice a (ZAK L).length (ZAK L).length,.slice af (ZBg L).length (ZBg L).length]⟩/\SrcK rowW 6 h' a (ZAK L)/\SrcK rowK 2 h' af (ZBg L)
end Go.Dw
