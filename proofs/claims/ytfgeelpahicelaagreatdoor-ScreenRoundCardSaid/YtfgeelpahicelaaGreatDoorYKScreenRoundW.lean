/- KScreenRoundW: ScreenRound: the contract, read as the row asks it. -/
import Derived.Test.YtfgeelpahicelaaGreatDoorRows
import Derived.Test.YtfgeelpahicelaaGreatDoorYG21
import Derived.Test.YtfgeelpahicelaaGreatDoorYG22
import Derived.Test.YtfgeelpahicelaaGreatDoorYG19
import Derived.Test.YtfgeelpahicelaaGreatDoorYKnF
set_option linter.unusedVariables false
set_option linter.unusedSimpArgs false
namespace Go.Proofs.YtfgeelpahicelaaGreatDoor.screenRound
open Go.ChangeShapes Go.WideShapes Go.ChangeAt Go.RowKit Go.Dw Go.Dx
set_option maxRecDepth 100000
theorem kids:Kids Tryz.prog (·<Tryz.prog.types.size):=kids_rows (by kernel_rfl) (by kernel_rfl)
theorem full:∀t e,t<Tryz.prog.types.size->Tryz.prog.underlying t=some (.slice e)->0<Tryz.prog.cellsOf e:=slices_full_of Tryz.prog (by kernel_rfl)
theorem params_in:∀t∈Tryz.f17.params.toList,t<Tryz.prog.types.size:=by
 rw[Tryz.params17];have:Tryz.prog.types.size=Tryz.prog.types.size:=rfl;intro t ht;simp only[List.mem_cons,List.not_mem_nil,or_false] at ht
 first|(rcases ht with rfl|rfl <;> exact Nat.le_of_ble_eq_true (by kernel_rfl))
theorem contract (H:Type)(enc:TypeId×Value->H)(W:World)(base:Nat)(args:Array Value)(ds gs:List (DataW H))(ZAK:List MemPlace)
  (hval0:∀(j:Nat) t v,Tryz.f17.params[j]?=some t->args[j]?=some v->Value.okWide Tryz.prog W .any base t v)
  (hW:DataW.Whole enc Tryz.prog Tryz.f17.params.toList Rows.screenRoundSpec.vars false W args.toList ds gs ZAK) (hL:laidMetH Tryz.prog Rows.screenFilesRow.laid W) :
  Calls Tryz.prog 17 args W fun e W'=>∃v,e=.returned v/\Rows.screenRoundSpec.post enc Tryz.prog Tryz.f17 false true false false W args v W':=by
 have hW':=hW;obtain⟨p,q,hA0,hV,rfl,hfz,hnd⟩:=hW;have hA:DataW.TrodAll enc Tryz.prog W 0 (fun _=>true) true Tryz.f17.params.toList args.toList ds p:=hA0;have hval:=hval0;rw[Tryz.params17] at hA hval;obtain⟨rfl,rfl⟩:=trodVars_none hV;obtain⟨v0,v1,d0,d1,p0,p1,rfl,rfl,rfl,⟨n0,h0⟩,⟨n1,h1⟩⟩:=trodAll_two hA;obtain⟨b0,len0,cap0,rfl⟩:=okWide_slice Tryz.underlying58 (hval 0 58 _ rfl rfl);obtain⟨s1,rfl⟩:=okWide_string Tryz.underlying9 (hval 1 9 _ rfl rfl);obtain⟨w0,a0,l0,c0,e0,ok0,nz0,hL0,hl0,hF0⟩:=ZHc ⟨n0,_,h0⟩;have e0':Value.slice b0 len0 cap0=w0:=by simpa [Value.cells] using e0
 subst e0';obtain⟨x1,e1,hx1⟩:=ZFK Tryz.underlying9 ⟨n1,_,h1⟩;have e1':Value.string s1=Go.Dw.str x1:=by simpa [Value.cells] using e1
 cases e1';have hv:=ZFc (cl:=c0) hL0 hF0 hl0 hx1 (libF hL) (powF hL) (errF hL) (tabF hL);rw[<-nz0] at hv;refine (ZEi hv (.cons (ZMn ok0) (.cons (.str _) .nil))).mono ?_;rintro e W' ⟨rfl,hu⟩;exact⟨_,rfl,ZG4 kids full params_in hW' rfl rfl rfl rfl (by kernel_rfl) Tryz.underlying4 hu⟩
end Go.Proofs.YtfgeelpahicelaaGreatDoor.screenRound
