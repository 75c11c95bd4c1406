/- KWorksWorksS: the witness of WorksWorks's row and the lift of its contract. -/
import Derived.Deep.DeepWitnessRowRef
import Derived.Test.YthlmgoefjmlndaaGreatDoorZKWorksWorksW
import Derived.Test.YthlmgoefjmlndaaGreatDoorZKnW
set_option linter.unusedVariables false
set_option linter.unusedSimpArgs false
namespace Go.Proofs.YthlmgoefjmlndaaGreatDoor.worksWorks
open Go.ChangeShapes Go.WideShapes Go.ChangeAt Go.RowKit
set_option maxRecDepth 100000
theorem ZTk:ownKnob Tryz.prog.godebug=none:=by kernel_rfl
theorem ZTP:Tryz.prog.inits.idxOf? 5=none:=by kernel_rfl
theorem reads (os:Os){H:Type}(enc:TypeId×Value->H):∃places,DataW.whole enc Tryz.prog ((ZFW os).forCall (fun _ _=>0) ⟨#[],#[.slice none 0 0],[]⟩).memory Tryz.f5.params.toList Rows.worksWorksSpec.vars false (#[.slice none 0 0]:Array Value).toList 8=some ([.nil],[],places) :=
 ⟨[],by kernel_rfl⟩
theorem lifted (os:Os)(started:os.Started)(H:Type)(enc:TypeId×Value->H)(F:Stop.Interp) :
  ReturnsInHanded {} Tryz.checked os 5 .any ((OpenSpec.ofChange Rows.worksWorksSpec).preRow enc Tryz.prog Tryz.f5 Rows.worksWorksRow.domain false Rows.worksWorksRow.laid) (((OpenSpec.ofChange Rows.worksWorksSpec).at F).post enc Tryz.prog Tryz.f5 false true false false):=by
 obtain⟨places,hx⟩:=reads os enc
 refine returnsInHanded_of_row (C:=Tryz.checked) (s:=OpenSpec.ofChange Rows.worksWorksSpec) ZTk started ZTP Tryz.func5
  (witness_row_atRef (enc:=enc) (C:=Tryz.checked) false (ZFW os) #[.slice none 0 0] rfl (by as_aux_lemma=>kernel_rfl) (by as_aux_lemma=>kernel_rfl) (by as_aux_lemma=>kernel_rfl)
   (OpenSpec.preRow_of_cond 8 hx (by as_aux_lemma=>kernel_rfl) (fun k hk=>by cases hk) (by as_aux_lemma=>kernel_rfl) (ZQV os))) ?_
 intro W base args ds gs ZAr hval hW _ _ hSz hL _ _;exact contract H enc W base args ds gs ZAr hval hW hSz hL
end Go.Proofs.YthlmgoefjmlndaaGreatDoor.worksWorks
