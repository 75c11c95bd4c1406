/- KWorksSamesS: the witness of WorksSames's row and the lift of its contract. -/
import Derived.Deep.DeepWitnessRowRef
import Derived.Test.YthlmgoefjmlndaaGreatDoorTKWorksSamesW
import Derived.Test.YthlmgoefjmlndaaGreatDoorTKnW
set_option linter.unusedVariables false
set_option linter.unusedSimpArgs false
namespace Go.Proofs.YthlmgoefjmlndaaGreatDoor.worksSames
open Go.ChangeShapes Go.WideShapes Go.ChangeAt Go.RowKit
set_option maxRecDepth 100000
theorem ZTz:ownKnob Tryz.prog.godebug=none:=by kernel_rfl
theorem ZTW:Tryz.prog.inits.idxOf? 9=none:=by kernel_rfl
theorem reads (os:Os){H:Type}(enc:TypeId×Value->H):∃places,DataW.whole enc Tryz.prog ((ZFX os).forCall (fun _ _=>0) ⟨#[],#[.slice none 0 0,.agg #[.string ⟨⟨[]⟩⟩,.string ⟨⟨[]⟩⟩]],[]⟩).memory Tryz.f9.params.toList Rows.worksSamesSpec.vars false (#[.slice none 0 0,.agg #[.string ⟨⟨[]⟩⟩,.string ⟨⟨[]⟩⟩]]:Array Value).toList 8=some ([.nil,.agg [.lit (.string []),.lit (.string [])]],[],places) :=
 ⟨[],by kernel_rfl⟩
theorem lifted (os:Os)(started:os.Started)(H:Type)(enc:TypeId×Value->H)(F:Stop.Interp) :
  ReturnsInHanded {} Tryz.checked os 9 .any ((OpenSpec.ofChange Rows.worksSamesSpec).preRow enc Tryz.prog Tryz.f9 Rows.worksSamesRow.domain false Rows.worksSamesRow.laid) (((OpenSpec.ofChange Rows.worksSamesSpec).at F).post enc Tryz.prog Tryz.f9 false true false false):=by
 obtain⟨places,hx⟩:=reads os enc
 refine returnsInHanded_of_row (C:=Tryz.checked) (s:=OpenSpec.ofChange Rows.worksSamesSpec) ZTz started ZTW Tryz.func9
  (witness_row_atRef (enc:=enc) (C:=Tryz.checked) false (ZFX os) #[.slice none 0 0,.agg #[.string ⟨⟨[]⟩⟩,.string ⟨⟨[]⟩⟩]] rfl (by as_aux_lemma=>kernel_rfl) (by as_aux_lemma=>kernel_rfl) (by as_aux_lemma=>kernel_rfl)
   (OpenSpec.preRow_of_cond 8 hx (by as_aux_lemma=>kernel_rfl) (fun k hk=>by cases hk) (by as_aux_lemma=>kernel_rfl) (ZR2 os))) ?_
 intro W base args ds gs ZAl hval hW _ _ hSz hL _ _;exact contract H enc W base args ds gs ZAl hval hW hSz hL
end Go.Proofs.YthlmgoefjmlndaaGreatDoor.worksSames
