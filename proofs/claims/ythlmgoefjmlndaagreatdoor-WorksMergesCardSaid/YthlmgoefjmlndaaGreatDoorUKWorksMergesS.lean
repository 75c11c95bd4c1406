/- KWorksMergesS: the witness of WorksMerges's row and the lift of its contract. -/
import Derived.Deep.DeepWitnessRowRef
import Derived.Test.YthlmgoefjmlndaaGreatDoorUKWorksMergesW
import Derived.Test.YthlmgoefjmlndaaGreatDoorUKnW
set_option linter.unusedVariables false
set_option linter.unusedSimpArgs false
namespace Go.Proofs.YthlmgoefjmlndaaGreatDoor.worksMerges
open Go.ChangeShapes Go.WideShapes Go.ChangeAt Go.RowKit
set_option maxRecDepth 100000
theorem ownKn:ownKnob Tryz.prog.godebug=none:=by kernel_rfl
theorem noInit:Tryz.prog.inits.idxOf? 14=none:=by kernel_rfl
theorem reads (os:Os){H:Type}(enc:TypeId×Value->H):∃places,DataW.whole enc Tryz.prog ((ZDE os).forCall (fun _ _=>0) ⟨#[],#[.slice none 0 0],[]⟩).memory Tryz.f14.params.toList Rows.worksMergesSpec.vars false (#[.slice none 0 0]:Array Value).toList 8=some ([.nil],[],places) :=
 ⟨[],by kernel_rfl⟩
theorem lifted (os:Os)(started:os.Started)(H:Type)(enc:TypeId×Value->H)(F:Stop.Interp) :
  ReturnsInHanded {} Tryz.checked os 14 .any ((OpenSpec.ofChange Rows.worksMergesSpec).preRow enc Tryz.prog Tryz.f14 Rows.worksMergesRow.domain false Rows.worksMergesRow.laid) (((OpenSpec.ofChange Rows.worksMergesSpec).at F).post enc Tryz.prog Tryz.f14 false true false false):=by
 obtain⟨places,hx⟩:=reads os enc
 refine returnsInHanded_of_row (C:=Tryz.checked) (s:=OpenSpec.ofChange Rows.worksMergesSpec) ownKn started noInit Tryz.func14
  (witness_row_atRef (enc:=enc) (C:=Tryz.checked) false (ZDE os) #[.slice none 0 0] rfl (by as_aux_lemma=>kernel_rfl) (by as_aux_lemma=>kernel_rfl) (by as_aux_lemma=>kernel_rfl)
   (OpenSpec.preRow_of_cond 8 hx (by as_aux_lemma=>kernel_rfl) (fun k hk=>by cases hk) (by as_aux_lemma=>kernel_rfl) (ZNI os))) ?_
 intro W base args ds gs ZAf hval hW _ _ hSz hL _ _;exact contract H enc W base args ds gs ZAf hval hW hSz hL
end Go.Proofs.YthlmgoefjmlndaaGreatDoor.worksMerges
