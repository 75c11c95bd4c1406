/- Ty2: more facts about the program's types, as instances (printed by wip/tools/ty2.lean): structs and their fields; types that are no interfaces. -/
import Derived.Test.YtcjmpdpgfmjcgaaGreatDoorITy
import Derived.Test.YtcjmpdpgfmjcgaaGreatDoorIG2
namespace Go.Dw
open Go Go.Dx Go.Proofs
set_option maxRecDepth 100000
instance noti26 : NotI Tryz.prog 26 := ⟨⟨_, Tryz.underlying26, rfl, (by intro m h; cases h)⟩⟩
instance plc59 : Plc Tryz.prog 59 [(0, 1), (1, 1), (2, 1)] := ⟨⟨_, Tryz.underlying59, by kernel_rfl⟩⟩
instance plc61 : Plc Tryz.prog 61 [(0, 1), (1, 1)] := ⟨⟨_, Tryz.underlying61, by kernel_rfl⟩⟩
instance plc116 : Plc Tryz.prog 116 [(0, 4), (4, 1)] := ⟨⟨_, Tryz.underlying116, by kernel_rfl⟩⟩
instance plc121 : Plc Tryz.prog 121 [(0, 1), (1, 1), (2, 1)] := ⟨⟨_, Tryz.underlying121, by kernel_rfl⟩⟩
end Go.Dw
