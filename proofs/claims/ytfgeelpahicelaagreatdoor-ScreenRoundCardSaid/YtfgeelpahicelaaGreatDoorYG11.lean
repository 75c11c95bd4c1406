/- Ty2: more facts about the program's types, as instances (printed by wip/tools/ty2.lean): structs and their fields; types that are no interfaces. -/
import Derived.Test.YtfgeelpahicelaaGreatDoorYTy
import Derived.Test.YtfgeelpahicelaaGreatDoorYG2
set_option linter.unusedVariables false
set_option linter.unusedSimpArgs false
namespace Go.Dw
open Go Go.Dx Go.Proofs
set_option maxRecDepth 100000
instance noti32:NotI Tryz.prog 32:=⟨⟨_,Tryz.underlying32,rfl,(by intro m h;cases h)⟩⟩
instance plc75:Plc Tryz.prog 75 [(0,1),(1,1),(2,1)]:=⟨⟨_,Tryz.underlying75,by kernel_rfl⟩⟩
instance plc204:Plc Tryz.prog 204 [(0,1)]:=⟨⟨_,Tryz.underlying204,by kernel_rfl⟩⟩
end Go.Dw
