/- KScreenRoundS: the witness of ScreenRound's row and the lift of its contract. -/
import Derived.Deep.DeepWitnessRowRef
import Derived.Test.YtfgeelpahicelaaGreatDoorYKScreenRoundW
import Derived.Test.YtfgeelpahicelaaGreatDoorYKnF
set_option linter.unusedVariables false
set_option linter.unusedSimpArgs false
namespace Go.Proofs.YtfgeelpahicelaaGreatDoor.screenRound
open Go.ChangeShapes Go.WideShapes Go.ChangeAt Go.RowKit
set_option maxRecDepth 100000
theorem ownKn:ownKnob Tryz.prog.godebug=none:=by kernel_rfl
theorem noInit:Tryz.prog.inits.idxOf? 17=none:=by kernel_rfl
theorem reads (os:Os){H:Type}(enc:TypeId×Value->H):∃ZCY,DataW.whole enc Tryz.prog ((ZBh os).forCall (fun _ _=>0) ⟨#[],#[.slice none 0 0,.string ⟨⟨[]⟩⟩],[]⟩).memory Tryz.f17.params.toList Rows.screenRoundSpec.vars false (#[.slice none 0 0,.string ⟨⟨[]⟩⟩]:Array Value).toList 8=some ([.nil,.lit (.string [])],[],ZCY) :=
 ⟨[],by kernel_rfl⟩
theorem lifted (os:Os)(started:os.Started)(H:Type)(enc:TypeId×Value->H)(F:Stop.Interp) :
  ReturnsInHanded {} Tryz.checked os 17 .any ((OpenSpec.ofChange Rows.screenRoundSpec).preRow enc Tryz.prog Tryz.f17 Rows.screenRoundRow.domain false Rows.screenRoundRow.laid) (((OpenSpec.ofChange Rows.screenRoundSpec).at F).post enc Tryz.prog Tryz.f17 false true false false):=by
 obtain⟨ZCY,hx⟩:=reads os enc
 refine returnsInHanded_of_row (C:=Tryz.checked) (s:=OpenSpec.ofChange Rows.screenRoundSpec) ownKn started noInit Tryz.func17
  (witness_row_atRef (enc:=enc) (C:=Tryz.checked) false (ZBh os) #[.slice none 0 0,.string ⟨⟨[]⟩⟩] rfl (by as_aux_lemma=>kernel_rfl) (by as_aux_lemma=>kernel_rfl) (by as_aux_lemma=>kernel_rfl)
   (OpenSpec.preRow_of_cond 8 hx (by as_aux_lemma=>kernel_rfl) (fun k hk=>by cases hk) (by as_aux_lemma=>kernel_rfl) (ZHR os))) ?_
 intro W base args ds gs ZAK hval hW _ _ _ hL _ _;exact contract H enc W base args ds gs ZAK hval hW hL
end Go.Proofs.YtfgeelpahicelaaGreatDoor.screenRound
