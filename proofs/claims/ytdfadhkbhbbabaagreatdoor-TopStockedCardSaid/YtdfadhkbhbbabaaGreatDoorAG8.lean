/- Ty2: more facts about the program's types, as instances (printed by wip/tools/ty2.lean): structs and their fields; types that are no interfaces. -/
import Derived.Test.YtdfadhkbhbbabaaGreatDoorATy
import Derived.Test.YtdfadhkbhbbabaaGreatDoorAG2
set_option linter.unusedVariables false
set_option linter.unusedSimpArgs false
namespace Go.Dw
open Go Go.Dx Go.Proofs
set_option maxRecDepth 100000
instance plc25:Plc Tryz.prog 25 [(0,1),(1,1)]:=⟨⟨_,Tryz.underlying25,by kernel_rfl⟩⟩
instance noti30:NotI Tryz.prog 30:=⟨⟨_,Tryz.underlying30,rfl,(by intro m h;cases h)⟩⟩
instance fl45_3:Fld Tryz.prog 45 3 3:=⟨⟨_,_,_,Tryz.underlying45,rfl,rfl,Tryz.underlying3,rfl⟩⟩
instance fl45_5:Fld Tryz.prog 45 5 5:=⟨⟨_,_,_,Tryz.underlying45,rfl,rfl,Tryz.underlying9,rfl⟩⟩
instance plc62:Plc Tryz.prog 62 [(0,1),(1,1)]:=⟨⟨_,Tryz.underlying62,by kernel_rfl⟩⟩
instance plc71:Plc Tryz.prog 71 [(0,5),(5,1)]:=⟨⟨_,Tryz.underlying71,by kernel_rfl⟩⟩
instance plc84:Plc Tryz.prog 84 [(0,1),(1,1),(2,1)]:=⟨⟨_,Tryz.underlying84,by kernel_rfl⟩⟩
instance plc88:Plc Tryz.prog 88 [(0,1),(1,1)]:=⟨⟨_,Tryz.underlying88,by kernel_rfl⟩⟩
instance plc109:Plc Tryz.prog 109 [(0,1),(1,1)]:=⟨⟨_,Tryz.underlying109,by kernel_rfl⟩⟩
instance plc208:Plc Tryz.prog 208 [(0,6)]:=⟨⟨_,Tryz.underlying208,by kernel_rfl⟩⟩
end Go.Dw
