/- -/
import Derived.Test.YtcjmpdpgfmjcgaaGreatDoorMRunN
namespace Go.Dx
open Go.Proofs
set_option maxRecDepth 1000000
theorem awake:Orc Tryz.prog 21 [] (.bool true):=closed_orc (V:=vt) (n:=100000) (g0:=11) (gl:=3) hmix tabN_ok (by decide) rfl rfl (by kernel_rfl)
end Go.Dx
