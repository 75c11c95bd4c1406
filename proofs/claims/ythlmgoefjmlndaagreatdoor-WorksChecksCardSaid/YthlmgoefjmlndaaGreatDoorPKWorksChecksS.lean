/- KWorksChecksS: the witness of WorksChecks's row and the lift of its contract. -/
import Derived.Deep.DeepWitnessRowRef
import Derived.Test.YthlmgoefjmlndaaGreatDoorPKWorksChecksW
import Derived.Test.YthlmgoefjmlndaaGreatDoorPKnW
set_option linter.unusedVariables false
set_option linter.unusedSimpArgs false
namespace Go.Proofs.YthlmgoefjmlndaaGreatDoor.worksChecks
open Go.ChangeShapes Go.WideShapes Go.ChangeAt Go.RowKit
set_option maxRecDepth 100000
theorem ZSW:ownKnob Tryz.prog.godebug=none:=by kernel_rfl
theorem ZR9:Tryz.prog.inits.idxOf? 3=none:=by kernel_rfl
theorem ZSb (os:Os){H:Type}(enc:TypeId×Value->H):∃places,DataW.whole enc Tryz.prog ((ZE1 os).forCall (fun _ _=>0) ⟨#[],#[.slice none 0 0],[]⟩).memory Tryz.f3.params.toList Rows.worksChecksSpec.vars false (#[.slice none 0 0]:Array Value).toList 8=some ([.nil],[],places) :=
 ⟨[],by kernel_rfl⟩
theorem lifted (os:Os)(started:os.Started)(H:Type)(enc:TypeId×Value->H)(F:Stop.Interp) :
  ReturnsInHanded {} Tryz.checked os 3 .any ((OpenSpec.ofChange Rows.worksChecksSpec).preRow enc Tryz.prog Tryz.f3 Rows.worksChecksRow.domain false Rows.worksChecksRow.laid) (((OpenSpec.ofChange Rows.worksChecksSpec).at F).post enc Tryz.prog Tryz.f3 false true false false):=by
 obtain⟨places,hx⟩:=ZSb os enc
 refine returnsInHanded_of_row (C:=Tryz.checked) (s:=OpenSpec.ofChange Rows.worksChecksSpec) ZSW started ZR9 Tryz.func3
  (witness_row_atRef (enc:=enc) (C:=Tryz.checked) false (ZE1 os) #[.slice none 0 0] rfl (by as_aux_lemma=>kernel_rfl) (by as_aux_lemma=>kernel_rfl) (by as_aux_lemma=>kernel_rfl)
   (OpenSpec.preRow_of_cond 8 hx (by as_aux_lemma=>kernel_rfl) (fun k hk=>by cases hk) (by as_aux_lemma=>kernel_rfl) (ZPR os))) ?_
 intro W base args ds gs ZAf hval hW _ _ hSz hL _ _;exact contract H enc W base args ds gs ZAf hval hW hSz hL
end Go.Proofs.YthlmgoefjmlndaaGreatDoor.worksChecks
