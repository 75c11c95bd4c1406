/- KTopStockedF: closed facts of the row of TopStocked (each its own lemma). -/
import Derived.Test.YtdfadhkbhbbabaaGreatDoorCards
import Derived.Test.YtdfadhkbhbbabaaGreatDoorTie
import Derived.WalkKit
import Derived.ProofKit
import Derived.OpenShut
import Derived.Deep.DeepHandedRow
import Derived.Lib.LaidTab
set_option linter.unusedVariables false
set_option linter.unusedSimpArgs false
namespace Go.Proofs.YtdfadhkbhbbabaaGreatDoor.topStocked
open Go.ChangeShapes Go.WideShapes Go.ChangeAt Go.RowKit
set_option maxRecDepth 100000

theorem own : ownKnob Tryz.prog.godebug = none := by kernel_rfl
theorem named : Tryz.prog.funcNamed "telecine/telecinetop.TopStocked" = some 3 := by kernel_rfl
set_option maxHeartbeats 40000000 in
theorem facts : joinedFacts Tryz.prog 3 Tryz.f3 (OpenSpec.ofChange Rows.topStockedSpec).bare Rows.topStockedRow = true := by
  simp only [joinedFacts, Bool.and_eq_true]
  repeat' apply And.intro
  all_goals as_aux_lemma => kernel_rfl
theorem inst : Func.isInstance Tryz.prog Tryz.f3 Rows.topStockedRow.origin Rows.topStockedRow.targs := of_decide_eq_true (by kernel_rfl)
theorem wrap : Func.isWrapper Tryz.prog Tryz.f3 Rows.topStockedRow.wrapper Rows.topStockedRow.mainSum := by
  unfold Func.isWrapper; first | (rw [if_pos (by decide +kernel)]; kernel_rfl) | (rw [if_neg (by decide +kernel)]; exact ⟨rfl, rfl⟩)
theorem byText : OpenClaim.wfByText (OpenSpec.ofChange Rows.topStockedSpec) Rows.topStockedRow = true := by kernel_rfl
theorem mainIs : Tryz.pinned.checked.prog.mainIs = some (true, "af8923a8f1d4871aaab4fbbe0ea41bf6c844d034d3b32edb17be6a29c1072870".toList) := by kernel_rfl
theorem goesBy : false = Rows.topStockedRow.goesBy Tryz.pinned.checked.prog := by kernel_rfl
theorem looksAll : true = Tryz.pinned.checked.prog.looks [] := by kernel_rfl
theorem stand5 : Tryz.pinned.checked.prog.wantsStandIn 5 = false := by kernel_rfl
theorem stand28 : Tryz.pinned.checked.prog.wantsStandIn 28 = false := by kernel_rfl
theorem stand29 : Tryz.pinned.checked.prog.wantsStandIn 29 = false := by kernel_rfl
end Go.Proofs.YtdfadhkbhbbabaaGreatDoor.topStocked
