/- Ty: facts about the program's types and functions, as instances (printed by wip/tools/ty.lean). -/
import Derived.Test.YtfgeelpahicelaaGreatDoorProg
import Derived.KernelRfl
import Derived.Test.YtfgeelpahicelaaGreatDoorVG2
set_option linter.unusedVariables false
set_option linter.unusedSimpArgs false
namespace Go.Dw
open Go Go.Dx Go.Proofs
set_option maxRecDepth 100000
instance und3:Und Tryz.prog 3 (.int .i64):=⟨Tryz.underlying3⟩
instance tsz3:Tsz Tryz.prog 3 1:=⟨by kernel_rfl⟩
instance one3:OneC Tryz.prog 3:=⟨⟨_,Tryz.underlying3,rfl⟩⟩
instance zr3:Zr Tryz.prog 3 (.int .i64 (0)):=⟨by kernel_rfl⟩
instance elm3:Elm Tryz.prog 3 1 8:=⟨⟨_,_,rfl,by kernel_rfl,by kernel_rfl,zr3.h,by kernel_rfl,rfl⟩⟩
instance und4:Und Tryz.prog 4 .bool:=⟨Tryz.underlying4⟩
instance und5:Und Tryz.prog 5 (.int .u8):=⟨Tryz.underlying5⟩
instance tsz5:Tsz Tryz.prog 5 1:=⟨by kernel_rfl⟩
instance one5:OneC Tryz.prog 5:=⟨⟨_,Tryz.underlying5,rfl⟩⟩
instance zr5:Zr Tryz.prog 5 (.int .u8 (0)):=⟨by kernel_rfl⟩
instance elm5:Elm Tryz.prog 5 1 1:=⟨⟨_,_,rfl,by kernel_rfl,by kernel_rfl,zr5.h,by kernel_rfl,rfl⟩⟩
instance und9:Und Tryz.prog 9 .string:=⟨Tryz.underlying9⟩
instance one9:OneC Tryz.prog 9:=⟨⟨_,Tryz.underlying9,rfl⟩⟩
instance und21:Und Tryz.prog 21 (.int .i32):=⟨Tryz.underlying21⟩
instance und52:Und Tryz.prog 52 (.slice 3):=⟨Tryz.underlying52⟩
instance und58:Und Tryz.prog 58 (.slice 75):=⟨Tryz.underlying58⟩
instance und59:Und Tryz.prog 59 (.slice 151):=⟨Tryz.underlying59⟩
instance one59:OneC Tryz.prog 59:=⟨⟨_,Tryz.underlying59,rfl⟩⟩
instance fo61_0:Fof Tryz.prog 61 0 0:=⟨by kernel_rfl⟩
instance fo61_1:Fof Tryz.prog 61 1 1:=⟨by kernel_rfl⟩
instance fo61_2:Fof Tryz.prog 61 2 2:=⟨by kernel_rfl⟩
instance fo61_3:Fof Tryz.prog 61 3 3:=⟨by kernel_rfl⟩
instance und69:Und Tryz.prog 69 (.array 2 5):=⟨Tryz.underlying69⟩
instance tsz75:Tsz Tryz.prog 75 3:=⟨by kernel_rfl⟩
instance row75:RowC Tryz.prog 75 3:=⟨⟨_,Tryz.underlying75,rfl,tsz75.h⟩⟩
instance zr75:Zr Tryz.prog 75 (.agg ⟨[(.int .i64 (0)),(.int .i64 (0)),(str [])]⟩):=⟨by kernel_rfl⟩
instance elm75:Elm Tryz.prog 75 3 32:=⟨⟨_,_,rfl,by kernel_rfl,by kernel_rfl,zr75.h,by kernel_rfl,rfl⟩⟩
instance fo75_0:Fof Tryz.prog 75 0 0:=⟨by kernel_rfl⟩
instance fo75_1:Fof Tryz.prog 75 1 1:=⟨by kernel_rfl⟩
instance fo75_2:Fof Tryz.prog 75 2 2:=⟨by kernel_rfl⟩
instance und101:Und Tryz.prog 101 (.slice 5):=⟨Tryz.underlying101⟩
instance tsz101:Tsz Tryz.prog 101 1:=⟨by kernel_rfl⟩
instance one101:OneC Tryz.prog 101:=⟨⟨_,Tryz.underlying101,rfl⟩⟩
instance tsz151:Tsz Tryz.prog 151 2:=⟨by kernel_rfl⟩
instance row151:RowC Tryz.prog 151 2:=⟨⟨_,Tryz.underlying151,rfl,tsz151.h⟩⟩
instance zr151:Zr Tryz.prog 151 (.agg ⟨[(.int .i64 (0)),(.int .i64 (0))]⟩):=⟨by kernel_rfl⟩
instance fo151_0:Fof Tryz.prog 151 0 0:=⟨by kernel_rfl⟩
instance fo151_1:Fof Tryz.prog 151 1 1:=⟨by kernel_rfl⟩
instance und160:Und Tryz.prog 160 (.pointer 162):=⟨Tryz.underlying160⟩
instance tsz160:Tsz Tryz.prog 160 1:=⟨by kernel_rfl⟩
instance one160:OneC Tryz.prog 160:=⟨⟨_,Tryz.underlying160,rfl⟩⟩
instance tsz162:Tsz Tryz.prog 162 2:=⟨by kernel_rfl⟩
instance zr162:Zr Tryz.prog 162 (.agg ⟨[(.pointer none),(.slice none 0 0)]⟩):=⟨by kernel_rfl⟩
instance fo162_0:Fof Tryz.prog 162 0 0:=⟨by kernel_rfl⟩
instance fo162_1:Fof Tryz.prog 162 1 1:=⟨by kernel_rfl⟩
instance und222:Und Tryz.prog 222 (.pointer 5):=⟨Tryz.underlying222⟩
instance bod23:Bod Tryz.prog 23:=⟨by kernel_rfl⟩
instance bod28:Bod Tryz.prog 28:=⟨by kernel_rfl⟩
instance bod31:Bod Tryz.prog 31:=⟨by kernel_rfl⟩
instance bod34:Bod Tryz.prog 34:=⟨by kernel_rfl⟩
instance bod35:Bod Tryz.prog 35:=⟨by kernel_rfl⟩
instance bod36:Bod Tryz.prog 36:=⟨by kernel_rfl⟩
instance bod55:Bod Tryz.prog 55:=⟨by kernel_rfl⟩
instance bod91:Bod Tryz.prog 91:=⟨by kernel_rfl⟩
instance bod94:Bod Tryz.prog 94:=⟨by kernel_rfl⟩
instance bod95:Bod Tryz.prog 95:=⟨by kernel_rfl⟩
instance bod96:Bod Tryz.prog 96:=⟨by kernel_rfl⟩
instance bod97:Bod Tryz.prog 97:=⟨by kernel_rfl⟩
instance bod98:Bod Tryz.prog 98:=⟨by kernel_rfl⟩
instance bod99:Bod Tryz.prog 99:=⟨by kernel_rfl⟩
instance bod100:Bod Tryz.prog 100:=⟨by kernel_rfl⟩
instance bod101:Bod Tryz.prog 101:=⟨by kernel_rfl⟩
instance bod148:Bod Tryz.prog 148:=⟨by kernel_rfl⟩
instance bod152:Bod Tryz.prog 152:=⟨by kernel_rfl⟩
instance bod154:Bod Tryz.prog 154:=⟨by kernel_rfl⟩
instance bod182:Bod Tryz.prog 182:=⟨by kernel_rfl⟩
instance bod183:Bod Tryz.prog 183:=⟨by kernel_rfl⟩
instance bod184:Bod Tryz.prog 184:=⟨by kernel_rfl⟩
instance bod209:Bod Tryz.prog 209:=⟨by kernel_rfl⟩
theorem hmix:Tryz.prog.follows .mixedOrders=true:=by kernel_rfl
end Go.Dw
