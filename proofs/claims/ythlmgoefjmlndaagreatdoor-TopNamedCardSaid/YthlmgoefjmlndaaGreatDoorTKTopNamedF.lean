/- KTopNamedF: closed facts of the row of TopNamed (each its own lemma). -/
import Derived.Test.YthlmgoefjmlndaaGreatDoorCards
import Derived.Test.YthlmgoefjmlndaaGreatDoorTie
import Derived.WalkKit
import Derived.ProofKit
import Derived.OpenShut
import Derived.Deep.DeepHandedRow
import Derived.Lib.LaidTab
set_option linter.unusedVariables false
set_option linter.unusedSimpArgs false
namespace Go.Proofs.YthlmgoefjmlndaaGreatDoor.topNamed
open Go.ChangeShapes Go.WideShapes Go.ChangeAt Go.RowKit
set_option maxRecDepth 100000

theorem own : ownKnob Tryz.prog.godebug = none := by kernel_rfl
theorem named : Tryz.prog.funcNamed "telecine/telecinetop.TopNamed" = some 17 := by kernel_rfl
set_option maxHeartbeats 40000000 in
theorem facts : joinedFacts Tryz.prog 17 Tryz.f17 (OpenSpec.ofChange Rows.topNamedSpec).bare Rows.topNamedRow = true := by
  simp only [joinedFacts, Bool.and_eq_true]
  repeat' apply And.intro
  all_goals as_aux_lemma => kernel_rfl
theorem inst : Func.isInstance Tryz.prog Tryz.f17 Rows.topNamedRow.origin Rows.topNamedRow.targs := of_decide_eq_true (by kernel_rfl)
theorem wrap : Func.isWrapper Tryz.prog Tryz.f17 Rows.topNamedRow.wrapper Rows.topNamedRow.mainSum := by
  unfold Func.isWrapper; first | (rw [if_pos (by decide +kernel)]; kernel_rfl) | (rw [if_neg (by decide +kernel)]; exact ⟨rfl, rfl⟩)
theorem byText : OpenClaim.wfByText (OpenSpec.ofChange Rows.topNamedSpec) Rows.topNamedRow = true := by kernel_rfl
theorem mainIs : Tryz.pinned.checked.prog.mainIs = some (true, "a82acb4701901cf7e4ea31c98f2f77a1c00f0b869ce2875ce4063ebf1004db68".toList) := by kernel_rfl
theorem goesBy : false = Rows.topNamedRow.goesBy Tryz.pinned.checked.prog := by kernel_rfl
theorem looksAll : true = Tryz.pinned.checked.prog.looks [] := by kernel_rfl
theorem stand22 : Tryz.pinned.checked.prog.wantsStandIn 22 = false := by kernel_rfl
theorem stand91 : Tryz.pinned.checked.prog.wantsStandIn 91 = false := by kernel_rfl
theorem stand93 : Tryz.pinned.checked.prog.wantsStandIn 93 = false := by kernel_rfl
end Go.Proofs.YthlmgoefjmlndaaGreatDoor.topNamed
