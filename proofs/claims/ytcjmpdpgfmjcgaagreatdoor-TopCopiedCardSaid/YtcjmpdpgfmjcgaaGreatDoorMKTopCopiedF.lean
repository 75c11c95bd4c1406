/- KTopCopiedF: closed facts of the row of TopCopied (each its own lemma). -/
import Derived.Test.YtcjmpdpgfmjcgaaGreatDoorCards
import Derived.Test.YtcjmpdpgfmjcgaaGreatDoorTie
import Derived.WalkKit
import Derived.ProofKit
import Derived.OpenShut
import Derived.Deep.DeepHandedRow
import Derived.Lib.LaidTab
namespace Go.Proofs.YtcjmpdpgfmjcgaaGreatDoor.topCopied
open Go.ChangeShapes Go.WideShapes Go.ChangeAt Go.RowKit
set_option maxRecDepth 100000

theorem own : ownKnob Tryz.prog.godebug = none := by kernel_rfl
theorem named : Tryz.prog.funcNamed "telecine/telecinetop.TopCopied" = some 18 := by kernel_rfl
set_option maxHeartbeats 40000000 in
theorem facts : joinedFacts Tryz.prog 18 Tryz.f18 (OpenSpec.ofChange Rows.topCopiedSpec).bare Rows.topCopiedRow = true := by
  simp only [joinedFacts, Bool.and_eq_true]
  repeat' apply And.intro
  all_goals as_aux_lemma => kernel_rfl
theorem inst : Func.isInstance Tryz.prog Tryz.f18 Rows.topCopiedRow.origin Rows.topCopiedRow.targs := of_decide_eq_true (by kernel_rfl)
theorem wrap : Func.isWrapper Tryz.prog Tryz.f18 Rows.topCopiedRow.wrapper Rows.topCopiedRow.mainSum := by
  unfold Func.isWrapper; first | (rw [if_pos (by decide +kernel)]; kernel_rfl) | (rw [if_neg (by decide +kernel)]; exact ⟨rfl, rfl⟩)
theorem byText : OpenClaim.wfByText (OpenSpec.ofChange Rows.topCopiedSpec) Rows.topCopiedRow = true := by kernel_rfl
theorem mainIs : Tryz.pinned.checked.prog.mainIs = some (true, "3ecf30f6fcb6b327603aead051cca7290766c8fc243b3bf4be531ddac3124e00".toList) := by kernel_rfl
theorem goesBy : false = Rows.topCopiedRow.goesBy Tryz.pinned.checked.prog := by kernel_rfl
theorem looksAll : true = Tryz.pinned.checked.prog.looks [] := by kernel_rfl
theorem stand25 : Tryz.pinned.checked.prog.wantsStandIn 25 = false := by kernel_rfl
theorem stand94 : Tryz.pinned.checked.prog.wantsStandIn 94 = false := by kernel_rfl
end Go.Proofs.YtcjmpdpgfmjcgaaGreatDoor.topCopied
