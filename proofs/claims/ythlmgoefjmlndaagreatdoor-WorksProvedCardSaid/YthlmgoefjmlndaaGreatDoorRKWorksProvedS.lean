/- KWorksProvedS: the witness of WorksProved's row and the lift of its contract. -/
import Derived.Deep.DeepWitnessRowRef
import Derived.Test.YthlmgoefjmlndaaGreatDoorRKWorksProvedW
import Derived.Test.YthlmgoefjmlndaaGreatDoorRKnW
set_option linter.unusedVariables false
set_option linter.unusedSimpArgs false
namespace Go.Proofs.YthlmgoefjmlndaaGreatDoor.worksProved
open Go.ChangeShapes Go.WideShapes Go.ChangeAt Go.RowKit
set_option maxRecDepth 100000
theorem ownKn:ownKnob Tryz.prog.godebug=none:=by kernel_rfl
theorem noInit:Tryz.prog.inits.idxOf? 10=none:=by kernel_rfl
theorem reads (os:Os){H:Type}(enc:TypeId×Value->H):∃places,DataW.whole enc Tryz.prog ((ZBa os).forCall (fun _ _=>0) ⟨#[],#[.slice none 0 0,.agg #[.string ⟨⟨[]⟩⟩,.string ⟨⟨[]⟩⟩],.slice none 0 0],[]⟩).memory Tryz.f10.params.toList Rows.worksProvedSpec.vars false (#[.slice none 0 0,.agg #[.string ⟨⟨[]⟩⟩,.string ⟨⟨[]⟩⟩],.slice none 0 0]:Array Value).toList 8=some ([.nil,.agg [.lit (.string []),.lit (.string [])],.nil],[],places) :=
 ⟨[],by kernel_rfl⟩
theorem lifted (os:Os)(started:os.Started)(H:Type)(enc:TypeId×Value->H)(F:Stop.Interp) :
  ReturnsInHanded {} Tryz.checked os 10 .any ((OpenSpec.ofChange Rows.worksProvedSpec).preRow enc Tryz.prog Tryz.f10 Rows.worksProvedRow.domain false Rows.worksProvedRow.laid) (((OpenSpec.ofChange Rows.worksProvedSpec).at F).post enc Tryz.prog Tryz.f10 false true false false):=by
 obtain⟨places,hx⟩:=reads os enc
 refine returnsInHanded_of_row (C:=Tryz.checked) (s:=OpenSpec.ofChange Rows.worksProvedSpec) ownKn started noInit Tryz.func10
  (witness_row_atRef (enc:=enc) (C:=Tryz.checked) false (ZBa os) #[.slice none 0 0,.agg #[.string ⟨⟨[]⟩⟩,.string ⟨⟨[]⟩⟩],.slice none 0 0] rfl (by as_aux_lemma=>kernel_rfl) (by as_aux_lemma=>kernel_rfl) (by as_aux_lemma=>kernel_rfl)
   (OpenSpec.preRow_of_cond 8 hx (by as_aux_lemma=>kernel_rfl) (fun k hk=>by cases hk) (by as_aux_lemma=>kernel_rfl) (ZGp os))) ?_
 intro W base args ds gs ZAh hval hW _ _ hSz hL _ _;exact contract H enc W base args ds gs ZAh hval hW hSz hL
end Go.Proofs.YthlmgoefjmlndaaGreatDoor.worksProved
