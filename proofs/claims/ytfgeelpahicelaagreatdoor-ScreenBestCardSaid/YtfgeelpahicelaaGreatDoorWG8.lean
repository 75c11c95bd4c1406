/- Ty2: more facts about the program's types, as instances (printed by wip/tools/ty2.lean): structs and their fields; types that are no interfaces. -/
import Derived.Test.YtfgeelpahicelaaGreatDoorWTy
import Derived.Test.YtfgeelpahicelaaGreatDoorWG2
set_option linter.unusedVariables false
set_option linter.unusedSimpArgs false
namespace Go.Dw
open Go Go.Dx Go.Proofs
set_option maxRecDepth 100000
instance plc49:Plc Tryz.prog 49 [(0,1),(1,1)]:=⟨⟨_,Tryz.underlying49,by kernel_rfl⟩⟩
instance plc110:Plc Tryz.prog 110 [(0,1),(1,1)]:=⟨⟨_,Tryz.underlying110,by kernel_rfl⟩⟩
instance plc115:Plc Tryz.prog 115 [(0,9)]:=⟨⟨_,Tryz.underlying115,by kernel_rfl⟩⟩
instance plc147:Plc Tryz.prog 147 [(0,9),(9,1),(10,1)]:=⟨⟨_,Tryz.underlying147,by kernel_rfl⟩⟩
instance plc156:Plc Tryz.prog 156 [(0,6),(6,1),(7,1),(8,1),(9,9),(18,1),(19,2)]:=⟨⟨_,Tryz.underlying156,by kernel_rfl⟩⟩
end Go.Dw
