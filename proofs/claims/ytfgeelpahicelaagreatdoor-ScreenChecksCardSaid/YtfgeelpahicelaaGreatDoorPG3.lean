/- Ty2: more facts about the program's types, as instances (printed by wip/tools/ty2.lean): structs and their fields; types that are no interfaces. -/
import Derived.Test.YtfgeelpahicelaaGreatDoorPTy
import Derived.Test.YtfgeelpahicelaaGreatDoorPG2
namespace Go.Dw
open Go Go.Dx Go.Proofs
set_option maxRecDepth 100000
instance plc115 : Plc Tryz.prog 115 [(0, 9)] := ⟨⟨_, Tryz.underlying115, by kernel_rfl⟩⟩
instance plc147 : Plc Tryz.prog 147 [(0, 9), (9, 1), (10, 1)] := ⟨⟨_, Tryz.underlying147, by kernel_rfl⟩⟩
end Go.Dw
