/- H1: parts of slices of records; the reference's list of keys that is looked through. -/
import Derived.Test.YtdfadhkbhbbabaaGreatDoorAG21
import Derived.Test.YtdfadhkbhbbabaaGreatDoorAG7
set_option linter.unusedVariables false
set_option linter.unusedSimpArgs false
namespace Go.Dw
open Go Go.Dx Go.Proofs
set_option maxRecDepth 100000
section
variable {P:Program}{m:Mem}{h:Heap}{d:Option Tmp}{ty:TypeId}{pos:String}{af:Array Edge}{gu:Option (Nat×Bool)}
end
end Go.Dw
