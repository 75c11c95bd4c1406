/- KnL4: what a row's condition says of the library's tables of runes and spaces. -/
import Derived.Lib.LaidU8
import Derived.Test.YtfgeelpahicelaaGreatDoorVKnL3
import Derived.Test.YtfgeelpahicelaaGreatDoorVG3
set_option linter.unusedVariables false
set_option linter.unusedSimpArgs false
namespace Go.Proofs.YtfgeelpahicelaaGreatDoor
open Go.ChangeShapes Go.WideShapes Go.ChangeAt Go.RowKit
set_option maxRecDepth 100000
theorem mem3 : ("unicode/utf8.acceptRanges", Lib.acceptData) ∈ Rows.screenChecksRow.laid := List.mem_of_getElem? (i := 3) (by kernel_rfl)
theorem mem4 : ("unicode.White_Space", Lib.whiteData) ∈ Rows.screenChecksRow.laid := List.mem_of_getElem? (i := 4) (by kernel_rfl)
theorem mem6 : ("unicode/utf8.first", Lib.firstData) ∈ Rows.screenChecksRow.laid := List.mem_of_getElem? (i := 6) (by kernel_rfl)
theorem u8X:U8Extra Tryz.prog Go.Dw.layTrim_ren:=⟨by kernel_rfl,by kernel_rfl,by kernel_rfl,by kernel_rfl,by kernel_rfl,by kernel_rfl,by kernel_rfl⟩
theorem wsX:WhiteExtra Tryz.prog Go.Dw.layTrim_ren:=⟨by kernel_rfl,by kernel_rfl,by kernel_rfl,by kernel_rfl,by kernel_rfl,by kernel_rfl,by kernel_rfl,by kernel_rfl⟩
theorem lib_at {W:World}(h:laidMetH Tryz.prog Rows.screenChecksRow.laid W):Go.Dw.LibAt (Go.Dw.ro W):=by
 have hp:=laid_plain h
 have h1:=laidMet_tail (laidMet_tail (laidMet_tail (laidMet_tail (laidMet_tail hp))))
 have h2 : Lib.TabIs Tryz.prog W "strings.asciiSpace" .u8 Lib.asciiSpaceTab :=
  Lib.tabIs_of_head (zs:=Lib.asciiSpaceTab) (g:=0) (t:=268) (e:=5) (n:=256) (by kernel_rfl) (by kernel_rfl) Tryz.underlying268 Tryz.underlying5 (by kernel_rfl) (by kernel_rfl) h1
 exact Go.Dw.LibAt.of ⟨h2,utf8Tabs_of_reads { Go.Dw.layTrim with } u8X (Lib.laidMet.reads hp mem6) (Lib.laidMet.reads hp mem3),whiteTab_of_reads { Go.Dw.layTrim with } wsX (Lib.laidMet.reads hp mem4)⟩
end Go.Proofs.YtfgeelpahicelaaGreatDoor
