/- KScreenCutW: ScreenCut: the contract, read as the row asks it. -/
import Derived.Test.YtfgeelpahicelaaGreatDoorRows
import Derived.Test.YtfgeelpahicelaaGreatDoorVG18
import Derived.Test.YtfgeelpahicelaaGreatDoorVG16
import Derived.Test.YtfgeelpahicelaaGreatDoorVG2
import Derived.Test.YtfgeelpahicelaaGreatDoorVKnL3
import Derived.Test.YtfgeelpahicelaaGreatDoorVKnL5
set_option linter.unusedVariables false
set_option linter.unusedSimpArgs false
namespace Go.Proofs.YtfgeelpahicelaaGreatDoor.screenCut
open Go.ChangeShapes Go.WideShapes Go.ChangeAt Go.RowKit Go.Dw Go.Dx
set_option maxRecDepth 100000
theorem kids:Kids Tryz.prog (·<Tryz.prog.types.size):=kids_rows (by kernel_rfl) (by kernel_rfl)
theorem full:∀t e,t<Tryz.prog.types.size->Tryz.prog.underlying t=some (.slice e)->0<Tryz.prog.cellsOf e:=slices_full_of Tryz.prog (by kernel_rfl)
theorem params_in:∀t∈Tryz.f8.params.toList,t<Tryz.prog.types.size:=by
 rw[Tryz.params8]
 have:Tryz.prog.types.size=Tryz.prog.types.size:=rfl
 intro t ht
 simp only[List.mem_cons,List.not_mem_nil,or_false] at ht
 first|(rcases ht with rfl|rfl|rfl <;> exact Nat.le_of_ble_eq_true (by kernel_rfl))
theorem contract (H:Type)(enc:TypeId×Value->H)(W:World)(base:Nat)(args:Array Value)(ds gs:List (DataW H))(before:List MemPlace)
  (hval0:∀(j:Nat) t v,Tryz.f8.params[j]?=some t->args[j]?=some v->Value.okWide Tryz.prog W .any base t v)
  (hW:DataW.Whole enc Tryz.prog Tryz.f8.params.toList Rows.screenCutSpec.vars false W args.toList ds gs before) (hL:laidMetH Tryz.prog Rows.screenChecksRow.laid W) :
  Calls Tryz.prog 8 args W fun e W'=>∃v,e=.returned v/\Rows.screenCutSpec.post enc Tryz.prog Tryz.f8 false true false false W args v W':=by
 have hW':=hW
 obtain⟨p,q,hA0,hV,rfl,hfz,hnd⟩:=hW
 have hA:DataW.TrodAll enc Tryz.prog W 0 (fun _=>true) true Tryz.f8.params.toList args.toList ds p:=hA0
 have hval:=hval0
 rw[Tryz.params8] at hA hval
 obtain⟨rfl,rfl⟩:=trodVars_none hV
 obtain⟨v0,v1,v2,d0,d1,d2,p0,p1,p2,rfl,rfl,rfl,⟨n0,h0⟩,⟨n1,h1⟩,⟨n2,h2⟩⟩:=trodAll_three hA
 obtain⟨b0,len0,cap0,rfl⟩:=okWide_slice Tryz.underlying58 (hval 0 58 _ rfl rfl)
 obtain⟨cs1,rfl⟩:∃cs,v1=.agg cs:=by
  have:=hval 1 61 v1 rfl rfl
  simp only[Value.okWide,Tryz.underlying61] at this
  obtain⟨cs,h,_⟩:=this
  exact⟨cs,h⟩
 obtain⟨cs2,rfl⟩:∃cs,v2=.agg cs:=by
  have:=hval 2 69 v2 rfl rfl
  simp only[Value.okWide,Tryz.underlying69] at this
  obtain⟨cs,h,_⟩:=this
  exact⟨cs,h⟩
 obtain⟨w0,a0,l0,c0,e0,ok0,nz0,hL0,hl0,hF0⟩:=rd_titles ⟨n0,_,h0⟩
 have e0':Value.slice b0 len0 cap0=w0:=by simpa [Value.cells] using e0
 subst e0'
 obtain⟨n,speed,rate,cuts,ac,cc,hok1,hnz1,hn,hs,hr,hC,hCl,hCF⟩:=rd_read ⟨n1,_,h1⟩
 obtain⟨x,y,e2,hx,hy⟩:=rd_two ⟨n2,_,h2⟩
 obtain⟨cs2⟩:=cs2
 have e2':cs2=[.int .u8 x,.int .u8 y]:=e2
 subst e2'
 have hv:=screenCut_sv (cc:=cc) (cl:=c0) hn hs hr hC hCF hCl hL0 hF0 hl0 hx hy (lib_at hL) (pow_at hL) (tab_at hL)
 rw[<-nz0,<-hnz1] at hv
 refine (calls_of_sv hv (.cons (okv_vr ok0) (.cons (.agg (okv_vrl hok1)) (.cons (.agg (.cons (.int _ _) (.cons (.int _ _) .nil))) .nil)))).mono ?_
 rintro e W' ⟨rfl,hu⟩
 exact⟨_,rfl,post_bool kids full params_in hW' rfl rfl rfl rfl (by kernel_rfl) Tryz.underlying4 hu⟩
end Go.Proofs.YtfgeelpahicelaaGreatDoor.screenCut
