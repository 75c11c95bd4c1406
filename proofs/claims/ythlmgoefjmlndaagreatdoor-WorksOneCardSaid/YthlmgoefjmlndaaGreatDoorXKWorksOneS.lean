/- KWorksOneS: the witness of WorksOne's row and the lift of its contract. -/
import Derived.Deep.DeepWitnessRowRef
import Derived.Test.YthlmgoefjmlndaaGreatDoorXKWorksOneW
import Derived.Test.YthlmgoefjmlndaaGreatDoorXKnW
set_option linter.unusedVariables false
set_option linter.unusedSimpArgs false
namespace Go.Proofs.YthlmgoefjmlndaaGreatDoor.worksOne
open Go.ChangeShapes Go.WideShapes Go.ChangeAt Go.RowKit
set_option maxRecDepth 100000
theorem ZS9:ownKnob Tryz.prog.godebug=none:=by kernel_rfl
theorem ZSs:Tryz.prog.inits.idxOf? 15=none:=by kernel_rfl
theorem reads (os:Os){H:Type}(enc:TypeId×Value->H):∃places,DataW.whole enc Tryz.prog ((ZEd os).forCall (fun _ _=>0) ⟨#[],#[.slice none 0 0,.int .u8 0,.int .u8 0],[]⟩).memory Tryz.f15.params.toList Rows.worksOneSpec.vars false (#[.slice none 0 0,.int .u8 0,.int .u8 0]:Array Value).toList 8=some ([.nil,.lit (.int .u8 0),.lit (.int .u8 0)],[],places) :=
 ⟨[],by kernel_rfl⟩
theorem lifted (os:Os)(started:os.Started)(H:Type)(enc:TypeId×Value->H)(F:Stop.Interp) :
  ReturnsInHanded {} Tryz.checked os 15 .any ((OpenSpec.ofChange Rows.worksOneSpec).preRow enc Tryz.prog Tryz.f15 Rows.worksOneRow.domain false Rows.worksOneRow.laid) (((OpenSpec.ofChange Rows.worksOneSpec).at F).post enc Tryz.prog Tryz.f15 false true false false):=by
 obtain⟨places,hx⟩:=reads os enc
 refine returnsInHanded_of_row (C:=Tryz.checked) (s:=OpenSpec.ofChange Rows.worksOneSpec) ZS9 started ZSs Tryz.func15
  (witness_row_atRef (enc:=enc) (C:=Tryz.checked) false (ZEd os) #[.slice none 0 0,.int .u8 0,.int .u8 0] rfl (by as_aux_lemma=>kernel_rfl) (by as_aux_lemma=>kernel_rfl) (by as_aux_lemma=>kernel_rfl)
   (OpenSpec.preRow_of_cond 8 hx (by as_aux_lemma=>kernel_rfl) (fun k hk=>by cases hk) (by as_aux_lemma=>kernel_rfl) (ZQR os))) ?_
 intro W base args ds gs ZAc hval hW _ _ hSz hL _ _;exact contract H enc W base args ds gs ZAc hval hW hSz hL
end Go.Proofs.YthlmgoefjmlndaaGreatDoor.worksOne
