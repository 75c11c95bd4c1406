/- KScreenBestsS: the witness of ScreenBests's row and the lift of its contract. -/
import Derived.Deep.DeepWitnessRowRef
import Derived.Test.YtfgeelpahicelaaGreatDoorXKScreenBestsW
import Derived.Test.YtfgeelpahicelaaGreatDoorXKnL3
set_option linter.unusedVariables false
set_option linter.unusedSimpArgs false
namespace Go.Proofs.YtfgeelpahicelaaGreatDoor.screenBests
open Go.ChangeShapes Go.WideShapes Go.ChangeAt Go.RowKit
set_option maxRecDepth 100000
theorem ownKn:ownKnob Tryz.prog.godebug=none:=by kernel_rfl
theorem noInit:Tryz.prog.inits.idxOf? 13=none:=by kernel_rfl
theorem reads (os:Os){H:Type}(enc:TypeId×Value->H):∃ZGI,DataW.whole enc Tryz.prog ((ZFB os).forCall (fun _ _=>0) ⟨#[],#[.agg #[.int .i64 0,.slice none 0 0,.slice none 0 0,.slice none 0 0,.slice none 0 0,.slice none 0 0,.slice none 0 0,.slice none 0 0,.slice none 0 0],.slice none 0 0,.agg #[.int .i64 0,.slice none 0 0]],[]⟩).memory Tryz.f13.params.toList Rows.screenBestsSpec.vars false (#[.agg #[.int .i64 0,.slice none 0 0,.slice none 0 0,.slice none 0 0,.slice none 0 0,.slice none 0 0,.slice none 0 0,.slice none 0 0,.slice none 0 0],.slice none 0 0,.agg #[.int .i64 0,.slice none 0 0]]:Array Value).toList 8=some ([.agg [.lit (.int .i64 0),.nil,.nil,.nil,.nil,.nil,.nil,.nil,.nil],.nil,.agg [.lit (.int .i64 0),.nil]],[],ZGI) :=
 ⟨[],by kernel_rfl⟩
theorem lifted (os:Os)(started:os.Started)(H:Type)(enc:TypeId×Value->H)(F:Stop.Interp) :
  ReturnsInHanded {} Tryz.checked os 13 .any ((OpenSpec.ofChange Rows.screenBestsSpec).preRow enc Tryz.prog Tryz.f13 Rows.screenBestsRow.domain false Rows.screenBestsRow.laid) (((OpenSpec.ofChange Rows.screenBestsSpec).at F).post enc Tryz.prog Tryz.f13 false true false false):=by
 obtain⟨ZGI,hx⟩:=reads os enc
 refine returnsInHanded_of_row (C:=Tryz.checked) (s:=OpenSpec.ofChange Rows.screenBestsSpec) ownKn started noInit Tryz.func13
  (witness_row_atRef (enc:=enc) (C:=Tryz.checked) false (ZFB os) #[.agg #[.int .i64 0,.slice none 0 0,.slice none 0 0,.slice none 0 0,.slice none 0 0,.slice none 0 0,.slice none 0 0,.slice none 0 0,.slice none 0 0],.slice none 0 0,.agg #[.int .i64 0,.slice none 0 0]] rfl (by as_aux_lemma=>kernel_rfl) (by as_aux_lemma=>kernel_rfl) (by as_aux_lemma=>kernel_rfl)
   (OpenSpec.preRow_of_cond 8 hx (by as_aux_lemma=>kernel_rfl) (fun k hk=>by cases hk) (by as_aux_lemma=>kernel_rfl) (ZPu os))) ?_
 intro W base args ds gs ZAi hval hW _ _ _ hL _ _;exact contract H enc W base args ds gs ZAi hval hW hL
end Go.Proofs.YtfgeelpahicelaaGreatDoor.screenBests
