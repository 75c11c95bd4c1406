/- Proved: the tied card of RescueKnown (the examples of chapter 04 of the document): the call returns true. Conditions: those of the row itself (its listed library tables, tied to the program's text by the card). -/
import Derived.Test.YtcjmpdpgfmjcgaaGreatDoorKnS
import Derived.Test.YtcjmpdpgfmjcgaaGreatDoorKnF
namespace Go.Proofs.YtcjmpdpgfmjcgaaGreatDoor.rescueKnown
open Go.ChangeShapes Go.WideShapes Go.ChangeAt Go.RowKit
set_option maxRecDepth 100000

theorem said : Rows.RescueKnownSaid :=
  OpenClaim.holds_of_cond 15 Tryz.f15 rfl rfl rfl rfl rfl rfl rfl ⟨rfl, rfl, rfl, rfl, rfl⟩ rfl rfl rfl rfl rfl named Tryz.func15 facts inst wrap
    (fun os started H enc _ F => by rw [OpenClaim.pre_eq_preRow]; exact lifted os started H enc F)

theorem plain (f : FuncId) (fn : Func) (hf : Tryz.pinned.checked.prog.funcNamed "telecine/telecinelaw04.RescueKnown" = some f) (hfn : Tryz.pinned.checked.prog.funcs[f]? = some fn) :
    true = Tryz.pinned.checked.prog.looks [] ∧ ∀ (j : Nat) t, fn.params[j]? = some t → Tryz.pinned.checked.prog.wantsStandIn t = false := by
  obtain rfl : f = 15 := Option.some.inj (named.symm.trans hf) |>.symm
  obtain rfl : fn = Tryz.f15 := (Option.some.inj (Tryz.func15.symm.trans hfn)).symm
  refine ⟨looksAll, fun j t ht => ?_⟩
  rw [Tryz.params15] at ht
  simp at ht

theorem card : Rows.RescueKnownCardSaid :=
  Claim7.holds_tied_plain_at .later [] _ _ _ _ said (fun _ h => by cases h) byText (fun _ h => by cases h) rescueKnown_row_tie rfl ⟨rfl, rfl⟩ mainIs rfl plain goesBy
end Go.Proofs.YtcjmpdpgfmjcgaaGreatDoor.rescueKnown
