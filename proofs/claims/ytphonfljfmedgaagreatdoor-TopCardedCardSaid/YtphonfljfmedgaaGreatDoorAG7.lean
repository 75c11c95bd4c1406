/- Ty2: more facts about the program's types, as instances (printed by wip/tools/ty2.lean): structs and their fields; types that are no interfaces. -/
import Derived.Test.YtphonfljfmedgaaGreatDoorATy
import Derived.Test.YtphonfljfmedgaaGreatDoorAG2
set_option linter.unusedVariables false
set_option linter.unusedSimpArgs false
namespace Go.Dw
open Go Go.Dx Go.Proofs
set_option maxRecDepth 100000
instance plc23:Plc Tryz.prog 23 [(0,1),(1,1)]:=⟨⟨_,Tryz.underlying23,by kernel_rfl⟩⟩
instance plc28:Plc Tryz.prog 28 [(0,1),(1,1),(2,1),(3,1),(4,2),(6,1),(7,1),(8,1),(9,1)]:=⟨⟨_,Tryz.underlying28,by kernel_rfl⟩⟩
instance noti35:NotI Tryz.prog 35:=⟨⟨_,Tryz.underlying35,rfl,(by intro m h;cases h)⟩⟩
instance plc69:Plc Tryz.prog 69 [(0,1)]:=⟨⟨_,Tryz.underlying69,by kernel_rfl⟩⟩
instance plc77:Plc Tryz.prog 77 [(0,1),(1,1),(2,1)]:=⟨⟨_,Tryz.underlying77,by kernel_rfl⟩⟩
instance plc79:Plc Tryz.prog 79 [(0,1),(1,1)]:=⟨⟨_,Tryz.underlying79,by kernel_rfl⟩⟩
instance plc81:Plc Tryz.prog 81 [(0,1),(1,1),(2,1)]:=⟨⟨_,Tryz.underlying81,by kernel_rfl⟩⟩
instance plc93:Plc Tryz.prog 93 [(0,1),(1,1)]:=⟨⟨_,Tryz.underlying93,by kernel_rfl⟩⟩
instance plc96:Plc Tryz.prog 96 [(0,1),(1,1),(2,2)]:=⟨⟨_,Tryz.underlying96,by kernel_rfl⟩⟩
instance plc107:Plc Tryz.prog 107 [(0,1),(1,2)]:=⟨⟨_,Tryz.underlying107,by kernel_rfl⟩⟩
instance plc114:Plc Tryz.prog 114 [(0,1),(1,1),(2,1),(3,1)]:=⟨⟨_,Tryz.underlying114,by kernel_rfl⟩⟩
instance plc120:Plc Tryz.prog 120 [(0,1),(1,1),(2,1)]:=⟨⟨_,Tryz.underlying120,by kernel_rfl⟩⟩
instance plc144:Plc Tryz.prog 144 [(0,1),(1,1)]:=⟨⟨_,Tryz.underlying144,by kernel_rfl⟩⟩
instance plc157:Plc Tryz.prog 157 [(0,13),(13,1),(14,1)]:=⟨⟨_,Tryz.underlying157,by kernel_rfl⟩⟩
instance plc164:Plc Tryz.prog 164 [(0,1),(1,1)]:=⟨⟨_,Tryz.underlying164,by kernel_rfl⟩⟩
end Go.Dw
