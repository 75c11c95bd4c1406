/- KScreenLentW: ScreenLent: the contract, read as the row asks it. -/
import Derived.Test.YtfgeelpahicelaaGreatDoorRows
import Derived.Test.YtfgeelpahicelaaGreatDoorQG11
import Derived.Test.YtfgeelpahicelaaGreatDoorQG5
import Derived.Test.YtfgeelpahicelaaGreatDoorQG2
import Derived.Test.YtfgeelpahicelaaGreatDoorQKnL3
set_option linter.unusedVariables false
set_option linter.unusedSimpArgs false
namespace Go.Proofs.YtfgeelpahicelaaGreatDoor.screenLent
open Go.ChangeShapes Go.WideShapes Go.ChangeAt Go.RowKit Go.Dw Go.Dx
set_option maxRecDepth 100000
theorem kids:Kids Tryz.prog (·<Tryz.prog.types.size):=kids_rows (by kernel_rfl) (by kernel_rfl)
theorem full:∀t e,t<Tryz.prog.types.size->Tryz.prog.underlying t=some (.slice e)->0<Tryz.prog.cellsOf e:=slices_full_of Tryz.prog (by kernel_rfl)
theorem params_in:∀t∈Tryz.f5.params.toList,t<Tryz.prog.types.size:=by
 rw[Tryz.params5]
 have:Tryz.prog.types.size=Tryz.prog.types.size:=rfl
 intro t ht
 simp only[List.mem_cons,List.not_mem_nil,or_false] at ht
 first|(rcases ht with rfl <;> exact Nat.le_of_ble_eq_true (by kernel_rfl))
theorem contract (H:Type)(enc:TypeId×Value->H)(W:World)(base:Nat)(args:Array Value)(ds gs:List (DataW H))(before:List MemPlace)
  (hval0:∀(j:Nat) t v,Tryz.f5.params[j]?=some t->args[j]?=some v->Value.okWide Tryz.prog W .any base t v)
  (hW:DataW.Whole enc Tryz.prog Tryz.f5.params.toList Rows.screenLentSpec.vars false W args.toList ds gs before) (hL:laidMetH Tryz.prog Rows.screenChecksRow.laid W) :
  Calls Tryz.prog 5 args W fun e W'=>∃v,e=.returned v/\Rows.screenLentSpec.post enc Tryz.prog Tryz.f5 false true false false W args v W':=by
 have hW':=hW
 obtain⟨p,q,hA0,hV,rfl,hfz,hnd⟩:=hW
 have hA:DataW.TrodAll enc Tryz.prog W 0 (fun _=>true) true Tryz.f5.params.toList args.toList ds p:=hA0
 have hval:=hval0
 rw[Tryz.params5] at hA hval
 obtain⟨rfl,rfl⟩:=trodVars_none hV
 obtain⟨v0,d0,rfl,rfl,n0,h0⟩:=trodAll_one hA
 obtain⟨cs,rfl⟩:∃cs,v0=.agg cs:=by
  have:=hval 0 31 v0 rfl rfl
  simp only[Value.okWide,Tryz.underlying31] at this
  obtain⟨cs,h,_⟩:=this
  exact⟨cs,h⟩
 obtain⟨t,hok,hT,hF⟩:=rd_sctask ⟨n0,_,h0⟩
 refine (calls_of_sv (screenLent_sv hT hF (tab_at hL)) (.cons (.agg (okv_vrl hok)) .nil)).mono ?_
 rintro e W' ⟨rfl,hu⟩
 exact⟨_,rfl,post_bool kids full params_in hW' rfl rfl rfl rfl (by kernel_rfl) Tryz.underlying4 hu⟩
end Go.Proofs.YtfgeelpahicelaaGreatDoor.screenLent
