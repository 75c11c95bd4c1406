/- KWorksWheresS: the witness of WorksWheres's row and the lift of its contract. -/
import Derived.Deep.DeepWitnessRowRef
import Derived.Test.YthlmgoefjmlndaaGreatDoorYKWorksWheresW
import Derived.Test.YthlmgoefjmlndaaGreatDoorYKnW
set_option linter.unusedVariables false
set_option linter.unusedSimpArgs false
namespace Go.Proofs.YthlmgoefjmlndaaGreatDoor.worksWheres
open Go.ChangeShapes Go.WideShapes Go.ChangeAt Go.RowKit
set_option maxRecDepth 100000
theorem ZT4:ownKnob Tryz.prog.godebug=none:=by kernel_rfl
theorem ZTV:Tryz.prog.inits.idxOf? 13=none:=by kernel_rfl
theorem reads (os:Os){H:Type}(enc:TypeId×Value->H):∃places,DataW.whole enc Tryz.prog ((ZFE os).forCall (fun _ _=>0) ⟨#[],#[.slice none 0 0,.agg #[.string ⟨⟨[]⟩⟩,.string ⟨⟨[]⟩⟩],.int .i64 0],[]⟩).memory Tryz.f13.params.toList Rows.worksWheresSpec.vars false (#[.slice none 0 0,.agg #[.string ⟨⟨[]⟩⟩,.string ⟨⟨[]⟩⟩],.int .i64 0]:Array Value).toList 8=some ([.nil,.agg [.lit (.string []),.lit (.string [])],.lit (.int .i64 0)],[],places) :=
 ⟨[],by kernel_rfl⟩
theorem lifted (os:Os)(started:os.Started)(H:Type)(enc:TypeId×Value->H)(F:Stop.Interp) :
  ReturnsInHanded {} Tryz.checked os 13 .any ((OpenSpec.ofChange Rows.worksWheresSpec).preRow enc Tryz.prog Tryz.f13 Rows.worksWheresRow.domain false Rows.worksWheresRow.laid) (((OpenSpec.ofChange Rows.worksWheresSpec).at F).post enc Tryz.prog Tryz.f13 false true false false):=by
 obtain⟨places,hx⟩:=reads os enc
 refine returnsInHanded_of_row (C:=Tryz.checked) (s:=OpenSpec.ofChange Rows.worksWheresSpec) ZT4 started ZTV Tryz.func13
  (witness_row_atRef (enc:=enc) (C:=Tryz.checked) false (ZFE os) #[.slice none 0 0,.agg #[.string ⟨⟨[]⟩⟩,.string ⟨⟨[]⟩⟩],.int .i64 0] rfl (by as_aux_lemma=>kernel_rfl) (by as_aux_lemma=>kernel_rfl) (by as_aux_lemma=>kernel_rfl)
   (OpenSpec.preRow_of_cond 8 hx (by as_aux_lemma=>kernel_rfl) (fun k hk=>by cases hk) (by as_aux_lemma=>kernel_rfl) (ZRB os))) ?_
 intro W base args ds gs ZAq hval hW _ _ hSz hL _ _;exact contract H enc W base args ds gs ZAq hval hW hSz hL
end Go.Proofs.YthlmgoefjmlndaaGreatDoor.worksWheres
