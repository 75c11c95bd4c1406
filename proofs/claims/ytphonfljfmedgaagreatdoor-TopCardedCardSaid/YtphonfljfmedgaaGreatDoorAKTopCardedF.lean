/- KTopCardedF: closed facts of the row of TopCarded (each its own lemma). -/
import Derived.Test.YtphonfljfmedgaaGreatDoorCards
import Derived.Test.YtphonfljfmedgaaGreatDoorTie
import Derived.WalkKit
import Derived.ProofKit
import Derived.OpenShut
import Derived.Deep.DeepHandedRow
import Derived.Lib.LaidTab
set_option linter.unusedVariables false
set_option linter.unusedSimpArgs false
namespace Go.Proofs.YtphonfljfmedgaaGreatDoor.topCarded
open Go.ChangeShapes Go.WideShapes Go.ChangeAt Go.RowKit
set_option maxRecDepth 100000

theorem own : ownKnob Tryz.prog.godebug = none := by kernel_rfl
theorem named : Tryz.prog.funcNamed "telecine/telecinetop.TopCarded" = some 3 := by kernel_rfl
set_option maxHeartbeats 40000000 in
theorem facts : joinedFacts Tryz.prog 3 Tryz.f3 (OpenSpec.ofChange Rows.topCardedSpec).bare Rows.topCardedRow = true := by
  simp only [joinedFacts, Bool.and_eq_true]
  repeat' apply And.intro
  all_goals as_aux_lemma => kernel_rfl
theorem inst : Func.isInstance Tryz.prog Tryz.f3 Rows.topCardedRow.origin Rows.topCardedRow.targs := of_decide_eq_true (by kernel_rfl)
theorem wrap : Func.isWrapper Tryz.prog Tryz.f3 Rows.topCardedRow.wrapper Rows.topCardedRow.mainSum := by
  unfold Func.isWrapper; first | (rw [if_pos (by decide +kernel)]; kernel_rfl) | (rw [if_neg (by decide +kernel)]; exact ⟨rfl, rfl⟩)
theorem byText : OpenClaim.wfByText (OpenSpec.ofChange Rows.topCardedSpec) Rows.topCardedRow = true := by kernel_rfl
theorem mainIs : Tryz.pinned.checked.prog.mainIs = some (true, "22055ed95b476fb4e25b2d477cd5891a0b3fe60ff834cfacc19825c1fb9394bb".toList) := by kernel_rfl
theorem goesBy : false = Rows.topCardedRow.goesBy Tryz.pinned.checked.prog := by kernel_rfl
theorem looksAll : true = Tryz.pinned.checked.prog.looks [] := by kernel_rfl
theorem stand31 : Tryz.pinned.checked.prog.wantsStandIn 31 = false := by kernel_rfl
theorem stand32 : Tryz.pinned.checked.prog.wantsStandIn 32 = false := by kernel_rfl
theorem stand34 : Tryz.pinned.checked.prog.wantsStandIn 34 = false := by kernel_rfl
end Go.Proofs.YtphonfljfmedgaaGreatDoor.topCarded
