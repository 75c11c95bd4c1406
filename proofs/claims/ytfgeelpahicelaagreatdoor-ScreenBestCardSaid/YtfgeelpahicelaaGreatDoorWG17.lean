/- T1: contracts: whether a text is one of a subtitle, packages screen and telecineref11. -/
import Derived.Lib.TrimUEq
import Derived.Lib.TrimAscii
import Derived.Test.YtfgeelpahicelaaGreatDoorWG16
import Derived.Test.YtfgeelpahicelaaGreatDoorWG15
import Derived.Test.YtfgeelpahicelaaGreatDoorWG9
import Derived.Test.YtfgeelpahicelaaGreatDoorWG2
set_option linter.unusedVariables false
set_option linter.unusedSimpArgs false
namespace Go.Dw
open Go Go.Dx Go.Proofs
set_option maxRecDepth 100000
section
variable {P:Program}{fr:Fr}{m:Mem}{ds:List ADef}{h:Heap}{Q:CQ}{ops:Array Oper}{l:List Oper}{d:Nat}{ty:TypeId}{pos:String}{af:Array Edge}{gu:Option (Nat×Bool)}
end
def priB (c:UInt8):Bool:=decide (32<=c.toNat/\c.toNat<=126)
def IxR (s:List UInt8)(h:Heap)(v:Value)(h':Heap):Prop:=Ext h h'/\∃n:Int,v=i64 n/\(n<0 ↔ s.all priB=true)
end Go.Dw
