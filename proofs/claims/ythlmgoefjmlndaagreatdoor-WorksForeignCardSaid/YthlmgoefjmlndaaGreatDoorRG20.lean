/- H1: parts of slices of records; the reference's list of keys that is looked through. -/
import Derived.Test.YthlmgoefjmlndaaGreatDoorRG2
import Derived.Test.YthlmgoefjmlndaaGreatDoorRG19
import Derived.Test.YthlmgoefjmlndaaGreatDoorRG8
import Derived.Test.YthlmgoefjmlndaaGreatDoorRG18
set_option linter.unusedVariables false
set_option linter.unusedSimpArgs false
namespace Go.Dw
open Go Go.Dx Go.Proofs
set_option maxRecDepth 100000
section
variable {P:Program}{m:Mem}{h:Heap}{d:Option Tmp}{ty:TypeId}{pos:String}{af:Array Edge}{gu:Option (Nat×Bool)}
end
end Go.Dw
namespace Go.Dw
open Go Go.Dx Go.Proofs
set_option maxRecDepth 100000
def ZTp (L:List WkR)(v:Value)(h':Heap):Prop:=∃a af,v=.tuple ⟨[.slice a (ZAJ L).length (ZAJ L).length,.slice af (ZAz L).length (ZAz L).length]⟩/\SrcK rowW 6 h' a (ZAJ L)/\SrcK rowK 2 h' af (ZAz L)
end Go.Dw
