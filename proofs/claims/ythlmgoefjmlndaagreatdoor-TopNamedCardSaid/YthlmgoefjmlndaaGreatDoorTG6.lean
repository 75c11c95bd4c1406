/- Ty2: more facts about the program's types, as instances (printed by wip/tools/ty2.lean): structs and their fields; types that are no interfaces. -/
import Derived.Test.YthlmgoefjmlndaaGreatDoorTTy
import Derived.Test.YthlmgoefjmlndaaGreatDoorTG2
set_option linter.unusedVariables false
set_option linter.unusedSimpArgs false
namespace Go.Dw
open Go Go.Dx Go.Proofs
set_option maxRecDepth 100000
instance plc41:Plc Tryz.prog 41 [(0,1),(1,1),(2,1)]:=⟨⟨_,Tryz.underlying41,by kernel_rfl⟩⟩
instance fl44_3:Fld Tryz.prog 44 3 3:=⟨⟨_,_,_,Tryz.underlying44,rfl,rfl,Tryz.underlying3,rfl⟩⟩
instance fl44_5:Fld Tryz.prog 44 5 5:=⟨⟨_,_,_,Tryz.underlying44,rfl,rfl,Tryz.underlying9,rfl⟩⟩
instance plc51:Plc Tryz.prog 51 [(0,1),(1,1)]:=⟨⟨_,Tryz.underlying51,by kernel_rfl⟩⟩
instance plc98:Plc Tryz.prog 98 [(0,1),(1,1)]:=⟨⟨_,Tryz.underlying98,by kernel_rfl⟩⟩
instance plc196:Plc Tryz.prog 196 [(0,6)]:=⟨⟨_,Tryz.underlying196,by kernel_rfl⟩⟩
instance plc225:Plc Tryz.prog 225 [(0,9)]:=⟨⟨_,Tryz.underlying225,by kernel_rfl⟩⟩
instance plc227:Plc Tryz.prog 227 [(0,9),(9,1),(10,1)]:=⟨⟨_,Tryz.underlying227,by kernel_rfl⟩⟩
instance plc234:Plc Tryz.prog 234 [(0,6),(6,1),(7,1),(8,1),(9,9),(18,1),(19,2)]:=⟨⟨_,Tryz.underlying234,by kernel_rfl⟩⟩
end Go.Dw
