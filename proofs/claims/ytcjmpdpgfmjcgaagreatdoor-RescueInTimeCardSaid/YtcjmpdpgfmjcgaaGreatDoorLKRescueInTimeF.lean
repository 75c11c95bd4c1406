/- KRescueInTimeF: closed facts of the row of RescueInTime (each its own lemma). -/
import Derived.Test.YtcjmpdpgfmjcgaaGreatDoorCards
import Derived.Test.YtcjmpdpgfmjcgaaGreatDoorTie
import Derived.WalkKit
import Derived.ProofKit
import Derived.OpenShut
import Derived.Deep.DeepHandedRow
import Derived.Lib.LaidTab
namespace Go.Proofs.YtcjmpdpgfmjcgaaGreatDoor.rescueInTime
open Go.ChangeShapes Go.WideShapes Go.ChangeAt Go.RowKit
set_option maxRecDepth 100000

theorem own : ownKnob Tryz.prog.godebug = none := by kernel_rfl
theorem named : Tryz.prog.funcNamed "telecine/telecinelaw04.RescueInTime" = some 17 := by kernel_rfl
set_option maxHeartbeats 40000000 in
theorem facts : joinedFacts Tryz.prog 17 Tryz.f17 (OpenSpec.ofChange Rows.rescueInTimeSpec).bare Rows.rescueInTimeRow = true := by
  simp only [joinedFacts, Bool.and_eq_true]
  repeat' apply And.intro
  all_goals as_aux_lemma => kernel_rfl
theorem inst : Func.isInstance Tryz.prog Tryz.f17 Rows.rescueInTimeRow.origin Rows.rescueInTimeRow.targs := of_decide_eq_true (by kernel_rfl)
theorem wrap : Func.isWrapper Tryz.prog Tryz.f17 Rows.rescueInTimeRow.wrapper Rows.rescueInTimeRow.mainSum := by
  unfold Func.isWrapper; first | (rw [if_pos (by decide +kernel)]; kernel_rfl) | (rw [if_neg (by decide +kernel)]; exact ⟨rfl, rfl⟩)
theorem byText : OpenClaim.wfByText (OpenSpec.ofChange Rows.rescueInTimeSpec) Rows.rescueInTimeRow = true := by kernel_rfl
theorem mainIs : Tryz.pinned.checked.prog.mainIs = some (true, "3ecf30f6fcb6b327603aead051cca7290766c8fc243b3bf4be531ddac3124e00".toList) := by kernel_rfl
theorem goesBy : false = Rows.rescueInTimeRow.goesBy Tryz.pinned.checked.prog := by kernel_rfl
theorem looksAll : true = Tryz.pinned.checked.prog.looks [] := by kernel_rfl
theorem stand31 : Tryz.pinned.checked.prog.wantsStandIn 31 = false := by kernel_rfl
theorem stand54 : Tryz.pinned.checked.prog.wantsStandIn 54 = false := by kernel_rfl
theorem stand82 : Tryz.pinned.checked.prog.wantsStandIn 82 = false := by kernel_rfl
end Go.Proofs.YtcjmpdpgfmjcgaaGreatDoor.rescueInTime
