/- Ty2: more facts about the program's types, as instances (printed by wip/tools/ty2.lean): structs and their fields; types that are no interfaces. -/
import Derived.Test.YtcjmpdpgfmjcgaaGreatDoorMTy
import Derived.Test.YtcjmpdpgfmjcgaaGreatDoorMG2
namespace Go.Dw
open Go Go.Dx Go.Proofs
set_option maxRecDepth 100000
instance plc51:Plc Tryz.prog 51 [(0,1),(1,1)]:=⟨⟨_,Tryz.underlying51,by kernel_rfl⟩⟩
instance fl51_0:Fld Tryz.prog 51 0 0:=⟨⟨_,_,_,Tryz.underlying51,rfl,rfl,Tryz.underlying3,rfl⟩⟩
instance fl51_1:Fld Tryz.prog 51 1 1:=⟨⟨_,_,_,Tryz.underlying51,rfl,rfl,Tryz.underlying3,rfl⟩⟩
instance plc59:Plc Tryz.prog 59 [(0,1),(1,1),(2,1)]:=⟨⟨_,Tryz.underlying59,by kernel_rfl⟩⟩
instance plc61:Plc Tryz.prog 61 [(0,1),(1,1)]:=⟨⟨_,Tryz.underlying61,by kernel_rfl⟩⟩
instance plc89:Plc Tryz.prog 89 [(0,1),(1,1)]:=⟨⟨_,Tryz.underlying89,by kernel_rfl⟩⟩
instance plc116:Plc Tryz.prog 116 [(0,4),(4,1)]:=⟨⟨_,Tryz.underlying116,by kernel_rfl⟩⟩
instance plc121:Plc Tryz.prog 121 [(0,1),(1,1),(2,1)]:=⟨⟨_,Tryz.underlying121,by kernel_rfl⟩⟩
instance plc145:Plc Tryz.prog 145 [(0,8),(8,13),(21,1)]:=⟨⟨_,Tryz.underlying145,by kernel_rfl⟩⟩
instance noti150:NotI Tryz.prog 150:=⟨⟨_,Tryz.underlying150,rfl,(by intro m h;cases h)⟩⟩
instance plc150:Plc Tryz.prog 150 [(0,1),(1,1),(2,1)]:=⟨⟨_,Tryz.underlying150,by kernel_rfl⟩⟩
end Go.Dw
