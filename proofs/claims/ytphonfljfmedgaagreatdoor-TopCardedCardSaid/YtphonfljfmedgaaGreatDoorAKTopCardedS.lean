/- KTopCardedS: the witness of TopCarded's row and the lift of its contract. -/
import Derived.Deep.DeepWitnessRowRef
import Derived.Test.YtphonfljfmedgaaGreatDoorAKTopCardedW
import Derived.Test.YtphonfljfmedgaaGreatDoorAKnY
set_option linter.unusedVariables false
set_option linter.unusedSimpArgs false
namespace Go.Proofs.YtphonfljfmedgaaGreatDoor.topCarded
open Go.ChangeShapes Go.WideShapes Go.ChangeAt Go.RowKit
set_option maxRecDepth 100000
theorem ZU3:ownKnob Tryz.prog.godebug=none:=by kernel_rfl
theorem ZUI:Tryz.prog.inits.idxOf? 3=none:=by kernel_rfl
theorem ZUo (os:Os){H:Type}(enc:TypeId×Value->H):∃ZFL,DataW.whole enc Tryz.prog ((ZFB os).forCall (fun _ _=>0) ⟨#[],#[.agg #[.string ⟨⟨[]⟩⟩,.int .i64 0,.int .i64 0,.int .i64 0,.int .i64 0,.int .i64 0,.int .i64 0,.slice none 0 0,.slice none 0 0,.slice none 0 0,.int .i64 0,.int .i64 0,.slice none 0 0],.slice none 0 0,.agg #[.int .u16 0,.int .u16 0]],[]⟩).memory Tryz.f3.params.toList Rows.topCardedSpec.vars false (#[.agg #[.string ⟨⟨[]⟩⟩,.int .i64 0,.int .i64 0,.int .i64 0,.int .i64 0,.int .i64 0,.int .i64 0,.slice none 0 0,.slice none 0 0,.slice none 0 0,.int .i64 0,.int .i64 0,.slice none 0 0],.slice none 0 0,.agg #[.int .u16 0,.int .u16 0]]:Array Value).toList 8=some ([.agg [.agg [.lit (.string []),.lit (.int .i64 0),.lit (.int .i64 0),.lit (.int .i64 0),.agg [.lit (.int .i64 0),.lit (.int .i64 0)],.lit (.int .i64 0),.nil,.nil,.nil],.agg [.lit (.int .i64 0),.lit (.int .i64 0)],.nil],.nil,.agg [.lit (.int .u16 0),.lit (.int .u16 0)]],[],ZFL) :=
 ⟨[],by kernel_rfl⟩
theorem lifted (os:Os)(started:os.Started)(H:Type)(enc:TypeId×Value->H)(F:Stop.Interp) :
  ReturnsInHanded {} Tryz.checked os 3 .any ((OpenSpec.ofChange Rows.topCardedSpec).preRow enc Tryz.prog Tryz.f3 Rows.topCardedRow.domain false Rows.topCardedRow.laid) (((OpenSpec.ofChange Rows.topCardedSpec).at F).post enc Tryz.prog Tryz.f3 false true false false):=by
 obtain⟨ZFL,hx⟩:=ZUo os enc
 refine returnsInHanded_of_row (C:=Tryz.checked) (s:=OpenSpec.ofChange Rows.topCardedSpec) ZU3 started ZUI Tryz.func3
  (witness_row_atRef (enc:=enc) (C:=Tryz.checked) false (ZFB os) #[.agg #[.string ⟨⟨[]⟩⟩,.int .i64 0,.int .i64 0,.int .i64 0,.int .i64 0,.int .i64 0,.int .i64 0,.slice none 0 0,.slice none 0 0,.slice none 0 0,.int .i64 0,.int .i64 0,.slice none 0 0],.slice none 0 0,.agg #[.int .u16 0,.int .u16 0]] rfl (by as_aux_lemma=>kernel_rfl) (by as_aux_lemma=>kernel_rfl) (by as_aux_lemma=>kernel_rfl)
   (OpenSpec.preRow_of_cond 8 hx (by as_aux_lemma=>kernel_rfl) (fun k hk=>by cases hk) (by as_aux_lemma=>kernel_rfl) (ZRK os))) ?_
 intro W base args ds gs ZAn hval hW _ _ hSz hL _ _;exact contract H enc W base args ds gs ZAn hval hW hSz hL
end Go.Proofs.YtphonfljfmedgaaGreatDoor.topCarded
