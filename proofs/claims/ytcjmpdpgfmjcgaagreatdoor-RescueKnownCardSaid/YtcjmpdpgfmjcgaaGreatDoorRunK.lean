import Derived.Test.YtcjmpdpgfmjcgaaGreatDoorRunA
namespace Go.Dx
open Go.Proofs
set_option maxRecDepth 1000000
def tabK : List (Nat × List (List Value × Value)) := (21, [([], .bool true)]) :: tabN
theorem tabK_ok : TabOK Tryz.prog tabK := by
  intro p hp q hq
  rcases List.mem_cons.1 hp with rfl | hp
  · simp only [List.mem_singleton] at hq
    subst hq
    exact awake
  · exact tabN_ok p hp q hq
theorem known : Orc Tryz.prog 15 [] (.bool true) := closed_orc (V := vt) (n := 100000) (g0 := 11) (gl := 3) hmix tabK_ok (by decide) rfl rfl (by kernel_rfl)
end Go.Dx
