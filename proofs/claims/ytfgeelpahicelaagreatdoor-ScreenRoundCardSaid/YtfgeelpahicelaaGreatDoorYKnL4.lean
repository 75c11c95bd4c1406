/- KnL4: what a row's condition says of the library's tables of runes and spaces. -/
import Derived.Lib.LaidU8
import Derived.Test.YtfgeelpahicelaaGreatDoorYKnL3
import Derived.Test.YtfgeelpahicelaaGreatDoorYG3
set_option linter.unusedVariables false
set_option linter.unusedSimpArgs false
namespace Go.Proofs.YtfgeelpahicelaaGreatDoor
open Go.ChangeShapes Go.WideShapes Go.ChangeAt Go.RowKit
set_option maxRecDepth 100000
theorem u8X:U8Extra Tryz.prog Go.Dw.layTrim_ren:=⟨by kernel_rfl,by kernel_rfl,by kernel_rfl,by kernel_rfl,by kernel_rfl,by kernel_rfl,by kernel_rfl⟩
theorem wsX:WhiteExtra Tryz.prog Go.Dw.layTrim_ren:=⟨by kernel_rfl,by kernel_rfl,by kernel_rfl,by kernel_rfl,by kernel_rfl,by kernel_rfl,by kernel_rfl,by kernel_rfl⟩
end Go.Proofs.YtfgeelpahicelaaGreatDoor
