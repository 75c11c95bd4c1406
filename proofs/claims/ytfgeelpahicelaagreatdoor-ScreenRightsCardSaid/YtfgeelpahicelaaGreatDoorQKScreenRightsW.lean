/- KScreenRightsW: ScreenRights: the contract, read as the row asks it. -/
import Derived.Test.YtfgeelpahicelaaGreatDoorRows
import Derived.Test.YtfgeelpahicelaaGreatDoorQG11
import Derived.Test.YtfgeelpahicelaaGreatDoorQG5
import Derived.Test.YtfgeelpahicelaaGreatDoorQG2
import Derived.Test.YtfgeelpahicelaaGreatDoorQKnL3
set_option linter.unusedVariables false
set_option linter.unusedSimpArgs false
namespace Go.Proofs.YtfgeelpahicelaaGreatDoor.screenRights
open Go.ChangeShapes Go.WideShapes Go.ChangeAt Go.RowKit Go.Dw Go.Dx
set_option maxRecDepth 100000
theorem kids:Kids Tryz.prog (·<Tryz.prog.types.size):=kids_rows (by kernel_rfl) (by kernel_rfl)
theorem full:∀t e,t<Tryz.prog.types.size->Tryz.prog.underlying t=some (.slice e)->0<Tryz.prog.cellsOf e:=slices_full_of Tryz.prog (by kernel_rfl)
theorem params_in:∀t∈Tryz.f11.params.toList,t<Tryz.prog.types.size:=by
 rw[Tryz.params11]
 have:Tryz.prog.types.size=Tryz.prog.types.size:=rfl
 intro t ht
 simp only[List.mem_cons,List.not_mem_nil,or_false] at ht
 first|(rcases ht with rfl|rfl <;> exact Nat.le_of_ble_eq_true (by kernel_rfl))
theorem contract (H:Type)(enc:TypeId×Value->H)(W:World)(base:Nat)(args:Array Value)(ds gs:List (DataW H))(before:List MemPlace)
  (hval0:∀(j:Nat) t v,Tryz.f11.params[j]?=some t->args[j]?=some v->Value.okWide Tryz.prog W .any base t v)
  (hW:DataW.Whole enc Tryz.prog Tryz.f11.params.toList Rows.screenRightsSpec.vars false W args.toList ds gs before) (hL:laidMetH Tryz.prog Rows.screenChecksRow.laid W) :
  Calls Tryz.prog 11 args W fun e W'=>∃v,e=.returned v/\Rows.screenRightsSpec.post enc Tryz.prog Tryz.f11 false true false false W args v W':=by
 have hW':=hW
 obtain⟨p,q,hA0,hV,rfl,hfz,hnd⟩:=hW
 have hA:DataW.TrodAll enc Tryz.prog W 0 (fun _=>true) true Tryz.f11.params.toList args.toList ds p:=hA0
 have hval:=hval0
 rw[Tryz.params11] at hA hval
 obtain⟨rfl,rfl⟩:=trodVars_none hV
 obtain⟨v0,v1,d0,d1,p0,p1,rfl,rfl,rfl,⟨n0,h0⟩,⟨n1,h1⟩⟩:=trodAll_two hA
 obtain⟨cs,rfl⟩:∃cs,v0=.agg cs:=by
  have:=hval 0 31 v0 rfl rfl
  simp only[Value.okWide,Tryz.underlying31] at this
  obtain⟨cs,h,_⟩:=this
  exact⟨cs,h⟩
 obtain⟨b1,len1,cap1,rfl⟩:=okWide_slice Tryz.underlying80 (hval 1 80 _ rfl rfl)
 obtain⟨t,hok,hT,hF⟩:=rd_sctask ⟨n0,_,h0⟩
 obtain⟨w1,a1,l1,c1,e1,ok1,nz1,hL1,hl1,hF1⟩:=rd_shows ⟨n1,_,h1⟩
 have e1':Value.slice b1 len1 cap1=w1:=by simpa [Value.cells] using e1
 subst e1'
 have hv:=screenRights_sv (cl:=c1) hT hF hL1 hF1 hl1 (tab_at hL)
 rw[<-nz1] at hv
 refine (calls_of_sv hv (.cons (.agg (okv_vrl hok)) (.cons (okv_vr ok1) .nil))).mono ?_
 rintro e W' ⟨rfl,hu⟩
 exact⟨_,rfl,post_bool kids full params_in hW' rfl rfl rfl rfl (by kernel_rfl) Tryz.underlying4 hu⟩
end Go.Proofs.YtfgeelpahicelaaGreatDoor.screenRights
