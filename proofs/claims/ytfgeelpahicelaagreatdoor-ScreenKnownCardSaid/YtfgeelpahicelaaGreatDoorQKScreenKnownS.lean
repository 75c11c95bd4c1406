/- KScreenKnownS: the witness of ScreenKnown's row and the lift of its contract. -/
import Derived.Deep.DeepWitnessRowRef
import Derived.Test.YtfgeelpahicelaaGreatDoorQKScreenKnownW
import Derived.Test.YtfgeelpahicelaaGreatDoorQKnL3
set_option linter.unusedVariables false
set_option linter.unusedSimpArgs false
namespace Go.Proofs.YtfgeelpahicelaaGreatDoor.screenKnown
open Go.ChangeShapes Go.WideShapes Go.ChangeAt Go.RowKit
set_option maxRecDepth 100000
theorem ownKn:ownKnob Tryz.prog.godebug=none:=by kernel_rfl
theorem noInit:Tryz.prog.inits.idxOf? 15=none:=by kernel_rfl
theorem reads (os:Os){H:Type}(enc:TypeId×Value->H):∃places,DataW.whole enc Tryz.prog ((laidWorld os).forCall (fun _ _=>0) ⟨#[],#[],[]⟩).memory Tryz.f15.params.toList Rows.screenKnownSpec.vars false (#[]:Array Value).toList 8=some ([],[],places) :=
 ⟨[],by kernel_rfl⟩
theorem lifted (os:Os)(started:os.Started)(H:Type)(enc:TypeId×Value->H)(F:Stop.Interp) :
  ReturnsInHanded {} Tryz.checked os 15 .any ((OpenSpec.ofChange Rows.screenKnownSpec).preRow enc Tryz.prog Tryz.f15 Rows.screenKnownRow.domain false Rows.screenKnownRow.laid) (((OpenSpec.ofChange Rows.screenKnownSpec).at F).post enc Tryz.prog Tryz.f15 false true false false):=by
 obtain⟨places,hx⟩:=reads os enc
 refine returnsInHanded_of_row (C:=Tryz.checked) (s:=OpenSpec.ofChange Rows.screenKnownSpec) ownKn started noInit Tryz.func15
  (witness_row_atRef (enc:=enc) (C:=Tryz.checked) false (laidWorld os) #[] rfl (by as_aux_lemma=>kernel_rfl) (by as_aux_lemma=>kernel_rfl) (by as_aux_lemma=>kernel_rfl)
   (OpenSpec.preRow_of_cond 8 hx (by as_aux_lemma=>kernel_rfl) (fun k hk=>by cases hk) (by as_aux_lemma=>kernel_rfl) (laid_met os))) ?_
 intro W base args ds gs before hval hW _ _ _ hL _ _
 exact contract H enc W base args ds gs before hval hW hL
end Go.Proofs.YtfgeelpahicelaaGreatDoor.screenKnown
