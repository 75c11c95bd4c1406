/- KScreenRoundF: closed facts of the row of ScreenRound (each its own lemma). -/
import Derived.Test.YtfgeelpahicelaaGreatDoorCards
import Derived.Test.YtfgeelpahicelaaGreatDoorTie
import Derived.WalkKit
import Derived.ProofKit
import Derived.OpenShut
import Derived.Deep.DeepHandedRow
import Derived.Lib.LaidTab
set_option linter.unusedVariables false
set_option linter.unusedSimpArgs false
namespace Go.Proofs.YtfgeelpahicelaaGreatDoor.screenRound
open Go.ChangeShapes Go.WideShapes Go.ChangeAt Go.RowKit
set_option maxRecDepth 100000

theorem own : ownKnob Tryz.prog.godebug = none := by kernel_rfl
theorem named : Tryz.prog.funcNamed "telecine/telecinelaw11.ScreenRound" = some 17 := by kernel_rfl
set_option maxHeartbeats 40000000 in
theorem facts : joinedFacts Tryz.prog 17 Tryz.f17 (OpenSpec.ofChange Rows.screenRoundSpec).bare Rows.screenRoundRow = true := by
  simp only [joinedFacts, Bool.and_eq_true]
  repeat' apply And.intro
  all_goals as_aux_lemma => kernel_rfl
theorem inst : Func.isInstance Tryz.prog Tryz.f17 Rows.screenRoundRow.origin Rows.screenRoundRow.targs := of_decide_eq_true (by kernel_rfl)
theorem wrap : Func.isWrapper Tryz.prog Tryz.f17 Rows.screenRoundRow.wrapper Rows.screenRoundRow.mainSum := by
  unfold Func.isWrapper; first | (rw [if_pos (by decide +kernel)]; kernel_rfl) | (rw [if_neg (by decide +kernel)]; exact ⟨rfl, rfl⟩)
theorem byText : OpenClaim.wfByText (OpenSpec.ofChange Rows.screenRoundSpec) Rows.screenRoundRow = true := by kernel_rfl
theorem mainIs : Tryz.pinned.checked.prog.mainIs = some (true, "ab7e6dfdffd77e11a09053b4c289b031e3a5d2ac49614169c879344bf4857ff5".toList) := by kernel_rfl
theorem goesBy : false = Rows.screenRoundRow.goesBy Tryz.pinned.checked.prog := by kernel_rfl
theorem looksAll : true = Tryz.pinned.checked.prog.looks [] := by kernel_rfl
theorem stand9 : Tryz.pinned.checked.prog.wantsStandIn 9 = false := by kernel_rfl
theorem stand58 : Tryz.pinned.checked.prog.wantsStandIn 58 = false := by kernel_rfl
end Go.Proofs.YtfgeelpahicelaaGreatDoor.screenRound
