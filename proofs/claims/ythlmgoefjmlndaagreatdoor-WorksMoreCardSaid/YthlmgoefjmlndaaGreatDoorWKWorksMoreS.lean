/- KWorksMoreS: the witness of WorksMore's row and the lift of its contract. -/
import Derived.Deep.DeepWitnessRowRef
import Derived.Test.YthlmgoefjmlndaaGreatDoorWKWorksMoreW
import Derived.Test.YthlmgoefjmlndaaGreatDoorWKnW
set_option linter.unusedVariables false
set_option linter.unusedSimpArgs false
namespace Go.Proofs.YthlmgoefjmlndaaGreatDoor.worksMore
open Go.ChangeShapes Go.WideShapes Go.ChangeAt Go.RowKit
set_option maxRecDepth 100000
theorem ZTV:ownKnob Tryz.prog.godebug=none:=by kernel_rfl
theorem ZTI:Tryz.prog.inits.idxOf? 11=none:=by kernel_rfl
theorem reads (os:Os){H:Type}(enc:TypeId×Value->H):∃places,DataW.whole enc Tryz.prog ((ZFR os).forCall (fun _ _=>0) ⟨#[],#[.slice none 0 0,.agg #[.string ⟨⟨[]⟩⟩,.int .i64 0,.int .i64 0,.int .i64 0,.string ⟨⟨[]⟩⟩,.string ⟨⟨[]⟩⟩]],[]⟩).memory Tryz.f11.params.toList Rows.worksMoreSpec.vars false (#[.slice none 0 0,.agg #[.string ⟨⟨[]⟩⟩,.int .i64 0,.int .i64 0,.int .i64 0,.string ⟨⟨[]⟩⟩,.string ⟨⟨[]⟩⟩]]:Array Value).toList 8=some ([.nil,.agg [.lit (.string []),.lit (.int .i64 0),.lit (.int .i64 0),.lit (.int .i64 0),.lit (.string []),.lit (.string [])]],[],places) :=
 ⟨[],by kernel_rfl⟩
theorem lifted (os:Os)(started:os.Started)(H:Type)(enc:TypeId×Value->H)(F:Stop.Interp) :
  ReturnsInHanded {} Tryz.checked os 11 .any ((OpenSpec.ofChange Rows.worksMoreSpec).preRow enc Tryz.prog Tryz.f11 Rows.worksMoreRow.domain false Rows.worksMoreRow.laid) (((OpenSpec.ofChange Rows.worksMoreSpec).at F).post enc Tryz.prog Tryz.f11 false true false false):=by
 obtain⟨places,hx⟩:=reads os enc
 refine returnsInHanded_of_row (C:=Tryz.checked) (s:=OpenSpec.ofChange Rows.worksMoreSpec) ZTV started ZTI Tryz.func11
  (witness_row_atRef (enc:=enc) (C:=Tryz.checked) false (ZFR os) #[.slice none 0 0,.agg #[.string ⟨⟨[]⟩⟩,.int .i64 0,.int .i64 0,.int .i64 0,.string ⟨⟨[]⟩⟩,.string ⟨⟨[]⟩⟩]] rfl (by as_aux_lemma=>kernel_rfl) (by as_aux_lemma=>kernel_rfl) (by as_aux_lemma=>kernel_rfl)
   (OpenSpec.preRow_of_cond 8 hx (by as_aux_lemma=>kernel_rfl) (fun k hk=>by cases hk) (by as_aux_lemma=>kernel_rfl) (ZQm os))) ?_
 intro W base args ds gs ZAi hval hW _ _ hSz hL _ _;exact contract H enc W base args ds gs ZAi hval hW hSz hL
end Go.Proofs.YthlmgoefjmlndaaGreatDoor.worksMore
