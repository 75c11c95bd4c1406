/- RunK: the chapter's examples, ScreenKnown, as a closed run. -/
import Derived.Test.YtfgeelpahicelaaGreatDoorQRunA
set_option linter.unusedVariables false
set_option linter.unusedSimpArgs false
namespace Go.Dx
open Go.Proofs
set_option maxRecDepth 1000000
def tabKS:List (Nat×List (List Value×Value)):=(23,[([],.bool true)])::tabS
theorem tabKS_ok:TabTOK Tryz.prog spTab tabKS:=by
 intro p hp q hq
 rcases List.mem_cons.1 hp with rfl|hp
 ·simp only[List.mem_singleton] at hq
  subst hq
  exact awake
 ·exact tabS_ok p hp q hq
theorem known:OrcT Tryz.prog spTab 15 [] (.bool true):=closed_orcT (V:=vt) (n:=100000) (g0:=11) (gl:=3) hmix tabN_ok tabKS_ok (by decide) (by decide) rfl rfl (fun t fz=>by kernel_rfl)
end Go.Dx
