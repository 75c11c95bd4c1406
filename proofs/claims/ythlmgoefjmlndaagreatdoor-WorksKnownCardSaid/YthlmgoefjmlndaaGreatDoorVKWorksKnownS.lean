/- KWorksKnownS: the witness of WorksKnown's row and the lift of its contract. -/
import Derived.Deep.DeepWitnessRowRef
import Derived.Test.YthlmgoefjmlndaaGreatDoorVKWorksKnownW
import Derived.Test.YthlmgoefjmlndaaGreatDoorVKnW
set_option linter.unusedVariables false
set_option linter.unusedSimpArgs false
namespace Go.Proofs.YthlmgoefjmlndaaGreatDoor.worksKnown
open Go.ChangeShapes Go.WideShapes Go.ChangeAt Go.RowKit
set_option maxRecDepth 100000
theorem ZTH:ownKnob Tryz.prog.godebug=none:=by kernel_rfl
theorem ZSx:Tryz.prog.inits.idxOf? 16=none:=by kernel_rfl
theorem reads (os:Os){H:Type}(enc:TypeId×Value->H):∃places,DataW.whole enc Tryz.prog ((ZFA os).forCall (fun _ _=>0) ⟨#[],#[],[]⟩).memory Tryz.f16.params.toList Rows.worksKnownSpec.vars false (#[]:Array Value).toList 8=some ([],[],places) :=
 ⟨[],by kernel_rfl⟩
theorem lifted (os:Os)(started:os.Started)(H:Type)(enc:TypeId×Value->H)(F:Stop.Interp) :
  ReturnsInHanded {} Tryz.checked os 16 .any ((OpenSpec.ofChange Rows.worksKnownSpec).preRow enc Tryz.prog Tryz.f16 Rows.worksKnownRow.domain false Rows.worksKnownRow.laid) (((OpenSpec.ofChange Rows.worksKnownSpec).at F).post enc Tryz.prog Tryz.f16 false true false false):=by
 obtain⟨places,hx⟩:=reads os enc
 refine returnsInHanded_of_row (C:=Tryz.checked) (s:=OpenSpec.ofChange Rows.worksKnownSpec) ZTH started ZSx Tryz.func16
  (witness_row_atRef (enc:=enc) (C:=Tryz.checked) false (ZFA os) #[] rfl (by as_aux_lemma=>kernel_rfl) (by as_aux_lemma=>kernel_rfl) (by as_aux_lemma=>kernel_rfl)
   (OpenSpec.preRow_of_cond 8 hx (by as_aux_lemma=>kernel_rfl) (fun k hk=>by cases hk) (by as_aux_lemma=>kernel_rfl) (ZQl os))) ?_
 intro W base args ds gs ZAg hval hW _ _ _ hL _ _;exact contract H enc W base args ds gs ZAg hval hW hL
end Go.Proofs.YthlmgoefjmlndaaGreatDoor.worksKnown
