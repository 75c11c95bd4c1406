/- KWorksWheresF: closed facts of the row of WorksWheres (each its own lemma). -/
import Derived.Test.YthlmgoefjmlndaaGreatDoorCards
import Derived.Test.YthlmgoefjmlndaaGreatDoorTie
import Derived.WalkKit
import Derived.ProofKit
import Derived.OpenShut
import Derived.Deep.DeepHandedRow
import Derived.Lib.LaidTab
set_option linter.unusedVariables false
set_option linter.unusedSimpArgs false
namespace Go.Proofs.YthlmgoefjmlndaaGreatDoor.worksWheres
open Go.ChangeShapes Go.WideShapes Go.ChangeAt Go.RowKit
set_option maxRecDepth 100000

theorem own : ownKnob Tryz.prog.godebug = none := by kernel_rfl
theorem named : Tryz.prog.funcNamed "telecine/telecinelaw12.WorksWheres" = some 13 := by kernel_rfl
set_option maxHeartbeats 40000000 in
theorem facts : joinedFacts Tryz.prog 13 Tryz.f13 (OpenSpec.ofChange Rows.worksWheresSpec).bare Rows.worksWheresRow = true := by
  simp only [joinedFacts, Bool.and_eq_true]
  repeat' apply And.intro
  all_goals as_aux_lemma => kernel_rfl
theorem inst : Func.isInstance Tryz.prog Tryz.f13 Rows.worksWheresRow.origin Rows.worksWheresRow.targs := of_decide_eq_true (by kernel_rfl)
theorem wrap : Func.isWrapper Tryz.prog Tryz.f13 Rows.worksWheresRow.wrapper Rows.worksWheresRow.mainSum := by
  unfold Func.isWrapper; first | (rw [if_pos (by decide +kernel)]; kernel_rfl) | (rw [if_neg (by decide +kernel)]; exact ⟨rfl, rfl⟩)
theorem byText : OpenClaim.wfByText (OpenSpec.ofChange Rows.worksWheresSpec) Rows.worksWheresRow = true := by kernel_rfl
theorem mainIs : Tryz.pinned.checked.prog.mainIs = some (true, "a82acb4701901cf7e4ea31c98f2f77a1c00f0b869ce2875ce4063ebf1004db68".toList) := by kernel_rfl
theorem goesBy : false = Rows.worksWheresRow.goesBy Tryz.pinned.checked.prog := by kernel_rfl
theorem looksAll : true = Tryz.pinned.checked.prog.looks [] := by kernel_rfl
theorem stand3 : Tryz.pinned.checked.prog.wantsStandIn 3 = false := by kernel_rfl
theorem stand22 : Tryz.pinned.checked.prog.wantsStandIn 22 = false := by kernel_rfl
theorem stand53 : Tryz.pinned.checked.prog.wantsStandIn 53 = false := by kernel_rfl
end Go.Proofs.YthlmgoefjmlndaaGreatDoor.worksWheres
