/- KScreenTitlesW: ScreenTitles: the contract, read as the row asks it. -/
import Derived.Test.YtfgeelpahicelaaGreatDoorRows
import Derived.Test.YtfgeelpahicelaaGreatDoorRG15
import Derived.Test.YtfgeelpahicelaaGreatDoorRG5
import Derived.Test.YtfgeelpahicelaaGreatDoorRG2
import Derived.Test.YtfgeelpahicelaaGreatDoorRKnL3
import Derived.Test.YtfgeelpahicelaaGreatDoorRKnL4
import Derived.Test.YtfgeelpahicelaaGreatDoorRG16
set_option linter.unusedVariables false
set_option linter.unusedSimpArgs false
namespace Go.Proofs.YtfgeelpahicelaaGreatDoor.screenTitles
open Go.ChangeShapes Go.WideShapes Go.ChangeAt Go.RowKit Go.Dw Go.Dx
set_option maxRecDepth 100000
theorem kids:Kids Tryz.prog (·<Tryz.prog.types.size):=kids_rows (by kernel_rfl) (by kernel_rfl)
theorem full:∀t e,t<Tryz.prog.types.size->Tryz.prog.underlying t=some (.slice e)->0<Tryz.prog.cellsOf e:=slices_full_of Tryz.prog (by kernel_rfl)
theorem params_in:∀t∈Tryz.f7.params.toList,t<Tryz.prog.types.size:=by
 rw[Tryz.params7]
 have:Tryz.prog.types.size=Tryz.prog.types.size:=rfl
 intro t ht
 simp only[List.mem_cons,List.not_mem_nil,or_false] at ht
 first|(rcases ht with rfl|rfl <;> exact Nat.le_of_ble_eq_true (by kernel_rfl))
theorem contract (H:Type)(enc:TypeId×Value->H)(W:World)(base:Nat)(args:Array Value)(ds gs:List (DataW H))(before:List MemPlace)
  (hval0:∀(j:Nat) t v,Tryz.f7.params[j]?=some t->args[j]?=some v->Value.okWide Tryz.prog W .any base t v)
  (hW:DataW.Whole enc Tryz.prog Tryz.f7.params.toList Rows.screenTitlesSpec.vars false W args.toList ds gs before) (hL:laidMetH Tryz.prog Rows.screenChecksRow.laid W) :
  Calls Tryz.prog 7 args W fun e W'=>∃v,e=.returned v/\Rows.screenTitlesSpec.post enc Tryz.prog Tryz.f7 false true false false W args v W':=by
 have hW':=hW
 obtain⟨p,q,hA0,hV,rfl,hfz,hnd⟩:=hW
 have hA:DataW.TrodAll enc Tryz.prog W 0 (fun _=>true) true Tryz.f7.params.toList args.toList ds p:=hA0
 have hval:=hval0
 rw[Tryz.params7] at hA hval
 obtain⟨rfl,rfl⟩:=trodVars_none hV
 obtain⟨v0,v1,d0,d1,p0,p1,rfl,rfl,rfl,⟨n0,h0⟩,⟨n1,h1⟩⟩:=trodAll_two hA
 obtain⟨b0,len0,cap0,rfl⟩:=okWide_slice Tryz.underlying58 (hval 0 58 _ rfl rfl)
 obtain⟨cs1,rfl⟩:∃cs,v1=.agg cs:=by
  have:=hval 1 61 v1 rfl rfl
  simp only[Value.okWide,Tryz.underlying61] at this
  obtain⟨cs,h,_⟩:=this
  exact⟨cs,h⟩
 obtain⟨w0,a0,l0,c0,e0,ok0,nz0,hL0,hl0,hF0⟩:=rd_titles ⟨n0,_,h0⟩
 have e0':Value.slice b0 len0 cap0=w0:=by simpa [Value.cells] using e0
 subst e0'
 obtain⟨n,speed,rate,cuts,ac,cc,hok1,hnz1,hn,hs,hr,hC,hCl,hCF⟩:=rd_read ⟨n1,_,h1⟩
 have hv:=screenTitles_sv (cc:=cc) (cl:=c0) hn hs hr hC hCF hCl hL0 hF0 hl0 (lib_at hL) (tab_at hL)
 rw[<-nz0,<-hnz1] at hv
 refine (calls_of_sv hv (.cons (okv_vr ok0) (.cons (.agg (okv_vrl hok1)) .nil))).mono ?_
 rintro e W' ⟨rfl,hu⟩
 exact⟨_,rfl,post_bool kids full params_in hW' rfl rfl rfl rfl (by kernel_rfl) Tryz.underlying4 hu⟩
end Go.Proofs.YtfgeelpahicelaaGreatDoor.screenTitles
