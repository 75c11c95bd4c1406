/- KWorksStandsS: the witness of WorksStands's row and the lift of its contract. -/
import Derived.Deep.DeepWitnessRowRef
import Derived.Test.YthlmgoefjmlndaaGreatDoorQKWorksStandsW
import Derived.Test.YthlmgoefjmlndaaGreatDoorQKnW
set_option linter.unusedVariables false
set_option linter.unusedSimpArgs false
namespace Go.Proofs.YthlmgoefjmlndaaGreatDoor.worksStands
open Go.ChangeShapes Go.WideShapes Go.ChangeAt Go.RowKit
set_option maxRecDepth 100000
theorem ZSx:ownKnob Tryz.prog.godebug=none:=by kernel_rfl
theorem ZSo:Tryz.prog.inits.idxOf? 4=none:=by kernel_rfl
theorem reads (os:Os){H:Type}(enc:TypeId×Value->H):∃places,DataW.whole enc Tryz.prog ((ZEp os).forCall (fun _ _=>0) ⟨#[],#[.slice none 0 0],[]⟩).memory Tryz.f4.params.toList Rows.worksStandsSpec.vars false (#[.slice none 0 0]:Array Value).toList 8=some ([.nil],[],places) :=
 ⟨[],by kernel_rfl⟩
theorem lifted (os:Os)(started:os.Started)(H:Type)(enc:TypeId×Value->H)(F:Stop.Interp) :
  ReturnsInHanded {} Tryz.checked os 4 .any ((OpenSpec.ofChange Rows.worksStandsSpec).preRow enc Tryz.prog Tryz.f4 Rows.worksStandsRow.domain false Rows.worksStandsRow.laid) (((OpenSpec.ofChange Rows.worksStandsSpec).at F).post enc Tryz.prog Tryz.f4 false true false false):=by
 obtain⟨places,hx⟩:=reads os enc
 refine returnsInHanded_of_row (C:=Tryz.checked) (s:=OpenSpec.ofChange Rows.worksStandsSpec) ZSx started ZSo Tryz.func4
  (witness_row_atRef (enc:=enc) (C:=Tryz.checked) false (ZEp os) #[.slice none 0 0] rfl (by as_aux_lemma=>kernel_rfl) (by as_aux_lemma=>kernel_rfl) (by as_aux_lemma=>kernel_rfl)
   (OpenSpec.preRow_of_cond 8 hx (by as_aux_lemma=>kernel_rfl) (fun k hk=>by cases hk) (by as_aux_lemma=>kernel_rfl) (ZP8 os))) ?_
 intro W base args ds gs ZAj hval hW _ _ hSz hL _ _;exact contract H enc W base args ds gs ZAj hval hW hSz hL
end Go.Proofs.YthlmgoefjmlndaaGreatDoor.worksStands
