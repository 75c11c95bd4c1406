/- KTopStockedS: the witness of TopStocked's row and the lift of its contract. -/
import Derived.Deep.DeepWitnessRowRef
import Derived.Test.YtdfadhkbhbbabaaGreatDoorAKTopStockedW
import Derived.Test.YtdfadhkbhbbabaaGreatDoorAKnS
set_option linter.unusedVariables false
set_option linter.unusedSimpArgs false
namespace Go.Proofs.YtdfadhkbhbbabaaGreatDoor.topStocked
open Go.ChangeShapes Go.WideShapes Go.ChangeAt Go.RowKit
set_option maxRecDepth 100000
theorem ZVf:ownKnob Tryz.prog.godebug=none:=by kernel_rfl
theorem ZVD:Tryz.prog.inits.idxOf? 3=none:=by kernel_rfl
theorem ZVp (os:Os){H:Type}(enc:TypeId×Value->H):∃places,DataW.whole enc Tryz.prog ((ZFb os).forCall (fun _ _=>0) ⟨#[],#[.agg #[.slice none 0 0,.slice none 0 0,.int .i64 0,.int .i64 0,.slice none 0 0],.slice none 0 0,.int .u8 0],[]⟩).memory Tryz.f3.params.toList Rows.topStockedSpec.vars false (#[.agg #[.slice none 0 0,.slice none 0 0,.int .i64 0,.int .i64 0,.slice none 0 0],.slice none 0 0,.int .u8 0]:Array Value).toList 8=some ([.agg [.nil,.nil,.agg [.lit (.int .i64 0),.lit (.int .i64 0)],.nil],.nil,.lit (.int .u8 0)],[],places) :=
 ⟨[],by kernel_rfl⟩
theorem lifted (os:Os)(started:os.Started)(H:Type)(enc:TypeId×Value->H)(F:Stop.Interp) :
  ReturnsInHanded {} Tryz.checked os 3 .any ((OpenSpec.ofChange Rows.topStockedSpec).preRow enc Tryz.prog Tryz.f3 Rows.topStockedRow.domain false Rows.topStockedRow.laid) (((OpenSpec.ofChange Rows.topStockedSpec).at F).post enc Tryz.prog Tryz.f3 false true false false):=by
 obtain⟨places,hx⟩:=ZVp os enc
 refine returnsInHanded_of_row (C:=Tryz.checked) (s:=OpenSpec.ofChange Rows.topStockedSpec) ZVf started ZVD Tryz.func3
  (witness_row_atRef (enc:=enc) (C:=Tryz.checked) false (ZFb os) #[.agg #[.slice none 0 0,.slice none 0 0,.int .i64 0,.int .i64 0,.slice none 0 0],.slice none 0 0,.int .u8 0] rfl (by as_aux_lemma=>kernel_rfl) (by as_aux_lemma=>kernel_rfl) (by as_aux_lemma=>kernel_rfl)
   (OpenSpec.preRow_of_cond 8 hx (by as_aux_lemma=>kernel_rfl) (fun k hk=>by cases hk) (by as_aux_lemma=>kernel_rfl) (ZSY os))) ?_
 intro W base args ds gs ZAd hval hW _ _ _ hL _ _;exact contract H enc W base args ds gs ZAd hval hW hL
end Go.Proofs.YtdfadhkbhbbabaaGreatDoor.topStocked
