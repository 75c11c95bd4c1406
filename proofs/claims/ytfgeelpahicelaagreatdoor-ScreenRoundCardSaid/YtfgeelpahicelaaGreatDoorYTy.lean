/- Ty: facts about the program's types and functions, as instances (printed by wip/tools/ty.lean). -/
import Derived.Test.YtfgeelpahicelaaGreatDoorProg
import Derived.KernelRfl
import Derived.Test.YtfgeelpahicelaaGreatDoorYG2
set_option linter.unusedVariables false
set_option linter.unusedSimpArgs false
namespace Go.Dw
open Go Go.Dx Go.Proofs
set_option maxRecDepth 100000
instance und3:Und Tryz.prog 3 (.int .i64):=⟨Tryz.underlying3⟩
instance one3:OneC Tryz.prog 3:=⟨⟨_,Tryz.underlying3,rfl⟩⟩
instance und4:Und Tryz.prog 4 .bool:=⟨Tryz.underlying4⟩
instance und5:Und Tryz.prog 5 (.int .u8):=⟨Tryz.underlying5⟩
instance tsz5:Tsz Tryz.prog 5 1:=⟨by kernel_rfl⟩
instance zr5:Zr Tryz.prog 5 (.int .u8 (0)):=⟨by kernel_rfl⟩
instance elm5:Elm Tryz.prog 5 1 1:=⟨⟨_,_,rfl,by kernel_rfl,by kernel_rfl,zr5.h,by kernel_rfl,rfl⟩⟩
instance und9:Und Tryz.prog 9 .string:=⟨Tryz.underlying9⟩
instance tsz9:Tsz Tryz.prog 9 1:=⟨by kernel_rfl⟩
instance one9:OneC Tryz.prog 9:=⟨⟨_,Tryz.underlying9,rfl⟩⟩
instance zr9:Zr Tryz.prog 9 (str []):=⟨by kernel_rfl⟩
instance elm9:Elm Tryz.prog 9 1 16:=⟨⟨_,_,rfl,by kernel_rfl,by kernel_rfl,zr9.h,by kernel_rfl,rfl⟩⟩
instance und21:Und Tryz.prog 21 (.int .i32):=⟨Tryz.underlying21⟩
instance und22:Und Tryz.prog 22 (.slice 9):=⟨Tryz.underlying22⟩
instance tsz32:Tsz Tryz.prog 32 1:=⟨by kernel_rfl⟩
instance one32:OneC Tryz.prog 32:=⟨⟨_,Tryz.underlying32,rfl⟩⟩
instance zr32:Zr Tryz.prog 32 (.int .i64 (0)):=⟨by kernel_rfl⟩
instance und58:Und Tryz.prog 58 (.slice 75):=⟨Tryz.underlying58⟩
instance tsz58:Tsz Tryz.prog 58 1:=⟨by kernel_rfl⟩
instance one58:OneC Tryz.prog 58:=⟨⟨_,Tryz.underlying58,rfl⟩⟩
instance zr58:Zr Tryz.prog 58 (.slice none 0 0):=⟨by kernel_rfl⟩
instance tsz75:Tsz Tryz.prog 75 3:=⟨by kernel_rfl⟩
instance row75:RowC Tryz.prog 75 3:=⟨⟨_,Tryz.underlying75,rfl,tsz75.h⟩⟩
instance zr75:Zr Tryz.prog 75 (.agg ⟨[(.int .i64 (0)),(.int .i64 (0)),(str [])]⟩):=⟨by kernel_rfl⟩
instance elm75:Elm Tryz.prog 75 3 32:=⟨⟨_,_,rfl,by kernel_rfl,by kernel_rfl,zr75.h,by kernel_rfl,rfl⟩⟩
instance fo75_0:Fof Tryz.prog 75 0 0:=⟨by kernel_rfl⟩
instance fo75_1:Fof Tryz.prog 75 1 1:=⟨by kernel_rfl⟩
instance fo75_2:Fof Tryz.prog 75 2 2:=⟨by kernel_rfl⟩
instance und101:Und Tryz.prog 101 (.slice 5):=⟨Tryz.underlying101⟩
instance tsz101:Tsz Tryz.prog 101 1:=⟨by kernel_rfl⟩
instance one101:OneC Tryz.prog 101:=⟨⟨_,Tryz.underlying101,rfl⟩⟩
instance und160:Und Tryz.prog 160 (.pointer 162):=⟨Tryz.underlying160⟩
instance tsz160:Tsz Tryz.prog 160 1:=⟨by kernel_rfl⟩
instance one160:OneC Tryz.prog 160:=⟨⟨_,Tryz.underlying160,rfl⟩⟩
instance tsz162:Tsz Tryz.prog 162 2:=⟨by kernel_rfl⟩
instance zr162:Zr Tryz.prog 162 (.agg ⟨[(.pointer none),(.slice none 0 0)]⟩):=⟨by kernel_rfl⟩
instance fo162_0:Fof Tryz.prog 162 0 0:=⟨by kernel_rfl⟩
instance fo162_1:Fof Tryz.prog 162 1 1:=⟨by kernel_rfl⟩
instance zr204:Zr Tryz.prog 204 (.agg ⟨[(str [])]⟩):=⟨by kernel_rfl⟩
instance fo204_0:Fof Tryz.prog 204 0 0:=⟨by kernel_rfl⟩
instance und222:Und Tryz.prog 222 (.pointer 5):=⟨Tryz.underlying222⟩
instance bod23:Bod Tryz.prog 23:=⟨by kernel_rfl⟩
instance bod30:Bod Tryz.prog 30:=⟨by kernel_rfl⟩
instance bod34:Bod Tryz.prog 34:=⟨by kernel_rfl⟩
instance bod52:Bod Tryz.prog 52:=⟨by kernel_rfl⟩
instance bod53:Bod Tryz.prog 53:=⟨by kernel_rfl⟩
instance bod54:Bod Tryz.prog 54:=⟨by kernel_rfl⟩
instance bod55:Bod Tryz.prog 55:=⟨by kernel_rfl⟩
instance bod75:Bod Tryz.prog 75:=⟨by kernel_rfl⟩
instance bod91:Bod Tryz.prog 91:=⟨by kernel_rfl⟩
instance bod93:Bod Tryz.prog 93:=⟨by kernel_rfl⟩
instance bod94:Bod Tryz.prog 94:=⟨by kernel_rfl⟩
instance bod95:Bod Tryz.prog 95:=⟨by kernel_rfl⟩
instance bod96:Bod Tryz.prog 96:=⟨by kernel_rfl⟩
instance bod119:Bod Tryz.prog 119:=⟨by kernel_rfl⟩
instance bod120:Bod Tryz.prog 120:=⟨by kernel_rfl⟩
instance bod121:Bod Tryz.prog 121:=⟨by kernel_rfl⟩
instance bod122:Bod Tryz.prog 122:=⟨by kernel_rfl⟩
instance bod123:Bod Tryz.prog 123:=⟨by kernel_rfl⟩
instance bod124:Bod Tryz.prog 124:=⟨by kernel_rfl⟩
instance bod125:Bod Tryz.prog 125:=⟨by kernel_rfl⟩
instance bod126:Bod Tryz.prog 126:=⟨by kernel_rfl⟩
instance bod127:Bod Tryz.prog 127:=⟨by kernel_rfl⟩
instance bod137:Bod Tryz.prog 137:=⟨by kernel_rfl⟩
instance bod148:Bod Tryz.prog 148:=⟨by kernel_rfl⟩
instance bod151:Bod Tryz.prog 151:=⟨by kernel_rfl⟩
instance bod152:Bod Tryz.prog 152:=⟨by kernel_rfl⟩
instance bod161:Bod Tryz.prog 161:=⟨by kernel_rfl⟩
instance bod162:Bod Tryz.prog 162:=⟨by kernel_rfl⟩
instance bod163:Bod Tryz.prog 163:=⟨by kernel_rfl⟩
instance bod164:Bod Tryz.prog 164:=⟨by kernel_rfl⟩
instance bod165:Bod Tryz.prog 165:=⟨by kernel_rfl⟩
instance bod166:Bod Tryz.prog 166:=⟨by kernel_rfl⟩
instance bod182:Bod Tryz.prog 182:=⟨by kernel_rfl⟩
instance bod183:Bod Tryz.prog 183:=⟨by kernel_rfl⟩
instance bod184:Bod Tryz.prog 184:=⟨by kernel_rfl⟩
instance bod189:Bod Tryz.prog 189:=⟨by kernel_rfl⟩
instance bod190:Bod Tryz.prog 190:=⟨by kernel_rfl⟩
instance bod193:Bod Tryz.prog 193:=⟨by kernel_rfl⟩
instance bod209:Bod Tryz.prog 209:=⟨by kernel_rfl⟩
instance bod226:Bod Tryz.prog 226:=⟨by kernel_rfl⟩
theorem hmix:Tryz.prog.follows .mixedOrders=true:=by kernel_rfl
end Go.Dw
