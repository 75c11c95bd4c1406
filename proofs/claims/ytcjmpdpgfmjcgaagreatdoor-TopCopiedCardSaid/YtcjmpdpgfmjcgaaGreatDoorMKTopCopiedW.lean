/- KTopCopiedW: TopCopied: the contract, read as the row asks it. -/
import Derived.Test.YtcjmpdpgfmjcgaaGreatDoorRows
import Derived.Test.YtcjmpdpgfmjcgaaGreatDoorMG29
import Derived.Test.YtcjmpdpgfmjcgaaGreatDoorMG23
namespace Go.Proofs.YtcjmpdpgfmjcgaaGreatDoor.topCopied
open Go.ChangeShapes Go.WideShapes Go.ChangeAt Go.RowKit Go.Dw Go.Dx
set_option maxRecDepth 100000
theorem kids:Kids Tryz.prog (·<Tryz.prog.types.size):=kids_rows (by kernel_rfl) (by kernel_rfl)
theorem full:∀t e,t<Tryz.prog.types.size->Tryz.prog.underlying t=some (.slice e)->0<Tryz.prog.cellsOf e:=slices_full_of Tryz.prog (by kernel_rfl)
theorem params_in:∀t∈Tryz.f18.params.toList,t<Tryz.prog.types.size:=by
 rw[Tryz.params18]
 have:Tryz.prog.types.size=Tryz.prog.types.size:=rfl
 intro t ht
 simp only[List.mem_cons,List.not_mem_nil,or_false] at ht
 first|(rcases ht with rfl|rfl <;> exact Nat.le_of_ble_eq_true (by kernel_rfl))
theorem contract (H:Type)(enc:TypeId×Value->H)(W:World)(base:Nat)(args:Array Value)(ds gs:List (DataW H))(before:List MemPlace)
  (hval0:∀(j:Nat) t v,Tryz.f18.params[j]?=some t->args[j]?=some v->Value.okWide Tryz.prog W .any base t v)
  (hW:DataW.Whole enc Tryz.prog Tryz.f18.params.toList Rows.topCopiedSpec.vars false W args.toList ds gs before)
  (hSz:(DataW.weightsEach Tryz.prog (Tryz.f18.params.toList++(OpenSpec.ofChange Rows.topCopiedSpec).bare.plain.varTypes Tryz.prog) (ds++gs)).all (·<=reachBytes)=true) :
  Calls Tryz.prog 18 args W fun e W'=>∃v,e=.returned v/\Rows.topCopiedSpec.post enc Tryz.prog Tryz.f18 false true false false W args v W':=by
 have hW':=hW
 obtain⟨p,q,hA0,hV,rfl,hfz,hnd⟩:=hW
 have hA:DataW.TrodAll enc Tryz.prog W 0 (fun _=>true) true Tryz.f18.params.toList args.toList ds p:=hA0
 have hval:=hval0
 rw[Tryz.params18] at hA hval
 obtain⟨rfl,rfl⟩:=trodVars_none hV
 obtain⟨v0,v1,d0,d1,p0,p1,rfl,rfl,rfl,⟨n0,h0⟩,⟨n1,h1⟩⟩:=trodAll_two hA
 obtain⟨cs,rfl⟩:∃cs,v0=.agg cs:=by
  have:=hval 0 25 v0 rfl rfl
  simp only[Value.okWide,Tryz.underlying25] at this
  obtain⟨cs,h,_⟩:=this
  exact⟨cs,h⟩
 obtain⟨b1,len1,cap1,rfl⟩:=okWide_slice Tryz.underlying94 (hval 1 94 _ rfl rfl)
 obtain⟨t,hok,hT,hF⟩:=rd_task ⟨n0,_,h0⟩
 have hwt:∀k∈d1.weights Tryz.prog 94,k<=reachBytes:=fun k hk=>by
  have:=List.all_eq_true.1 hSz k (DataW.weights_mem_each (j:=1) (t:=94) (d:=d1) (by rw[Tryz.params18];rfl) rfl k hk)
  exact of_decide_eq_true this
 obtain⟨w1,a1,l1,c1,e1,ok1,nz1,hL1,hl1,hF1⟩:=rdW_rows (P:=Tryz.prog) (R:=DTaskAt) (Fit:=fun x=>x.Fit/\x.tests.length*24<=140737488351232) Tryz.underlying94 (k:=13) (by kernel_rfl) (by decide) (fun row hr=>rd_dtaskW hr) ⟨n1,_,h1,hwt⟩
 have e1':Value.slice b1 len1 cap1=w1:=by simpa [Value.cells] using e1
 subst e1'
 have hv:=topCopied_sv (cL:=c1) hT hF hL1 (fun x hx=>(hF1 x hx).1) hl1 (fun x hx=>(hF1 x hx).2)
 rw[<-nz1] at hv
 refine (calls_of_sv hv (.cons (.agg (okv_vrl hok)) (.cons (okv_vr ok1) .nil))).mono ?_
 rintro e W' ⟨rfl,hu⟩
 exact⟨_,rfl,post_bool kids full params_in hW' rfl rfl rfl rfl (by kernel_rfl) Tryz.underlying4 hu⟩
end Go.Proofs.YtcjmpdpgfmjcgaaGreatDoor.topCopied
