/- KWorksPartedS: the witness of WorksParted's row and the lift of its contract. -/
import Derived.Deep.DeepWitnessRowRef
import Derived.Test.YthlmgoefjmlndaaGreatDoorUKWorksPartedW
import Derived.Test.YthlmgoefjmlndaaGreatDoorUKnW
set_option linter.unusedVariables false
set_option linter.unusedSimpArgs false
namespace Go.Proofs.YthlmgoefjmlndaaGreatDoor.worksParted
open Go.ChangeShapes Go.WideShapes Go.ChangeAt Go.RowKit
set_option maxRecDepth 100000
theorem ownKn:ownKnob Tryz.prog.godebug=none:=by kernel_rfl
theorem noInit:Tryz.prog.inits.idxOf? 6=none:=by kernel_rfl
theorem reads (os:Os){H:Type}(enc:TypeId×Value->H):∃places,DataW.whole enc Tryz.prog ((ZDE os).forCall (fun _ _=>0) ⟨#[],#[.slice none 0 0,.agg #[.int .u8 0,.int .u8 0]],[]⟩).memory Tryz.f6.params.toList Rows.worksPartedSpec.vars false (#[.slice none 0 0,.agg #[.int .u8 0,.int .u8 0]]:Array Value).toList 8=some ([.nil,.agg [.lit (.int .u8 0),.lit (.int .u8 0)]],[],places) :=
 ⟨[],by kernel_rfl⟩
theorem lifted (os:Os)(started:os.Started)(H:Type)(enc:TypeId×Value->H)(F:Stop.Interp) :
  ReturnsInHanded {} Tryz.checked os 6 .any ((OpenSpec.ofChange Rows.worksPartedSpec).preRow enc Tryz.prog Tryz.f6 Rows.worksPartedRow.domain false Rows.worksPartedRow.laid) (((OpenSpec.ofChange Rows.worksPartedSpec).at F).post enc Tryz.prog Tryz.f6 false true false false):=by
 obtain⟨places,hx⟩:=reads os enc
 refine returnsInHanded_of_row (C:=Tryz.checked) (s:=OpenSpec.ofChange Rows.worksPartedSpec) ownKn started noInit Tryz.func6
  (witness_row_atRef (enc:=enc) (C:=Tryz.checked) false (ZDE os) #[.slice none 0 0,.agg #[.int .u8 0,.int .u8 0]] rfl (by as_aux_lemma=>kernel_rfl) (by as_aux_lemma=>kernel_rfl) (by as_aux_lemma=>kernel_rfl)
   (OpenSpec.preRow_of_cond 8 hx (by as_aux_lemma=>kernel_rfl) (fun k hk=>by cases hk) (by as_aux_lemma=>kernel_rfl) (ZNI os))) ?_
 intro W base args ds gs ZAf hval hW _ _ hSz hL _ _;exact contract H enc W base args ds gs ZAf hval hW hSz hL
end Go.Proofs.YthlmgoefjmlndaaGreatDoor.worksParted
