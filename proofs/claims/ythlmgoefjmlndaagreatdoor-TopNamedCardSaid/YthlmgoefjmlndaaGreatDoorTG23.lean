/- K1: contracts: clashes, as the reference finds them. -/
import Derived.Test.YthlmgoefjmlndaaGreatDoorTG2
import Derived.Test.YthlmgoefjmlndaaGreatDoorTG22
set_option linter.unusedVariables false
set_option linter.unusedSimpArgs false
namespace Go.Dw
open Go Go.Dx Go.Proofs
set_option maxRecDepth 100000
abbrev Cls:=Key×List Str
def cI (h0:Heap)(c:Value×Cls):It:=slI h0 c.1 9 1 (c.2.2.map str) c.2.2.length
end Go.Dw
namespace Go.Dw
open Go Go.Dx Go.Proofs
set_option maxRecDepth 100000
section
variable {P:Program}{m:Mem}{h:Heap}{d:Option Tmp}{ty:TypeId}{pos:String}{af:Array Edge}{gu:Option (Nat×Bool)}{t tz el:TypeId}{x y:Operand}
end
end Go.Dw
