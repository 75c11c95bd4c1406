/- KnL5: what a row's condition says of the library's table of powers of ten. -/
import Derived.Test.YtfgeelpahicelaaGreatDoorXKnL4
import Derived.Test.YtfgeelpahicelaaGreatDoorXG14
set_option linter.unusedVariables false
set_option linter.unusedSimpArgs false
namespace Go.Proofs.YtfgeelpahicelaaGreatDoor
open Go.ChangeShapes Go.WideShapes Go.ChangeAt Go.RowKit
set_option maxRecDepth 100000
theorem ZSl {W:World}(h:laidMetH Tryz.prog Rows.screenChecksRow.laid W):Go.Dw.PowAt (Go.Dw.ro W):=by
 have h1:=ZBk (ZBk (ZHv h));exact Go.Dw.PowAt.of (Lib.tabIs_of_head (zs:=Lib.pow10Tab) (g:=2) (t:=304) (e:=271) (n:=20) (by kernel_rfl) (by kernel_rfl) Tryz.underlying304 Tryz.underlying271 (by kernel_rfl) (by kernel_rfl) h1)
end Go.Proofs.YtfgeelpahicelaaGreatDoor
