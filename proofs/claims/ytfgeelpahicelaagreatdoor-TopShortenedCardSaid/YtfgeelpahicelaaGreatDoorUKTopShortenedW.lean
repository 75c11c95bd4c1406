/- KTopShortenedW: TopShortened: the contract, read as the row asks it. -/
import Derived.Test.YtfgeelpahicelaaGreatDoorRows
import Derived.Test.YtfgeelpahicelaaGreatDoorUG16
import Derived.Test.YtfgeelpahicelaaGreatDoorUG4
import Derived.Test.YtfgeelpahicelaaGreatDoorUG2
import Derived.Test.YtfgeelpahicelaaGreatDoorUKnL3
import Derived.Test.YtfgeelpahicelaaGreatDoorUKnL4
import Derived.Test.YtfgeelpahicelaaGreatDoorUG19
set_option linter.unusedVariables false
set_option linter.unusedSimpArgs false
namespace Go.Proofs.YtfgeelpahicelaaGreatDoor.topShortened
open Go.ChangeShapes Go.WideShapes Go.ChangeAt Go.RowKit Go.Dw Go.Dx
set_option maxRecDepth 100000
theorem kids:Kids Tryz.prog (·<Tryz.prog.types.size):=kids_rows (by kernel_rfl) (by kernel_rfl)
theorem full:∀t e,t<Tryz.prog.types.size->Tryz.prog.underlying t=some (.slice e)->0<Tryz.prog.cellsOf e:=slices_full_of Tryz.prog (by kernel_rfl)
theorem params_in:∀t∈Tryz.f9.params.toList,t<Tryz.prog.types.size:=by
 rw[Tryz.params9]
 have:Tryz.prog.types.size=Tryz.prog.types.size:=rfl
 intro t ht
 simp only[List.mem_cons,List.not_mem_nil,or_false] at ht
 first|(rcases ht with rfl|rfl <;> exact Nat.le_of_ble_eq_true (by kernel_rfl))
theorem contract (H:Type)(enc:TypeId×Value->H)(W:World)(base:Nat)(args:Array Value)(ds gs:List (DataW H))(before:List MemPlace)
  (hval0:∀(j:Nat) t v,Tryz.f9.params[j]?=some t->args[j]?=some v->Value.okWide Tryz.prog W .any base t v)
  (hW:DataW.Whole enc Tryz.prog Tryz.f9.params.toList Rows.topShortenedSpec.vars false W args.toList ds gs before) (hSz:(DataW.weightsEach Tryz.prog (Tryz.f9.params.toList++(OpenSpec.ofChange Rows.topShortenedSpec).bare.plain.varTypes Tryz.prog) (ds++gs)).all (·<=reachBytes)=true) (hL:laidMetH Tryz.prog Rows.screenChecksRow.laid W) :
  Calls Tryz.prog 9 args W fun e W'=>∃v,e=.returned v/\Rows.topShortenedSpec.post enc Tryz.prog Tryz.f9 false true false false W args v W':=by
 have hW':=hW
 obtain⟨p,q,hA0,hV,rfl,hfz,hnd⟩:=hW
 have hA:DataW.TrodAll enc Tryz.prog W 0 (fun _=>true) true Tryz.f9.params.toList args.toList ds p:=hA0
 have hval:=hval0
 rw[Tryz.params9] at hA hval
 obtain⟨rfl,rfl⟩:=trodVars_none hV
 obtain⟨v0,v1,d0,d1,p0,p1,rfl,rfl,rfl,⟨n0,h0⟩,⟨n1,h1⟩⟩:=trodAll_two hA
 obtain⟨cs0,rfl⟩:∃cs,v0=.agg cs:=by
  have:=hval 0 31 v0 rfl rfl
  simp only[Value.okWide,Tryz.underlying31] at this
  obtain⟨cs,h,_⟩:=this
  exact⟨cs,h⟩
 obtain⟨cs1,rfl⟩:∃cs,v1=.agg cs:=by
  have:=hval 1 78 v1 rfl rfl
  simp only[Value.okWide,Tryz.underlying78] at this
  obtain⟨cs,h,_⟩:=this
  exact⟨cs,h⟩
 have hwt:∀k∈d0.weights Tryz.prog 31,k<=reachBytes:=fun k hk=>by
  have:=List.all_eq_true.1 hSz k (DataW.weights_mem_each (j:=0) (t:=31) (d:=d0) (by rw[Tryz.params9];rfl) rfl k hk)
  exact of_decide_eq_true this
 obtain⟨t,hok0,hT,hF,hSz0⟩:=rd_sctaskW ⟨n0,_,h0,hwt⟩
 obtain⟨l,al,cl,n,k,ac,cc,s,sr,hok1,hnz1,hl,hlL,hlF,hn,hk,hkL,hkF,hs,hsF⟩:=rd_shortened ⟨n1,_,h1⟩
 have hv:=topShortened_sv (cl:=cl) (cc:=cc) hT hF hsF hs hn hk hkF hkL hl hlF hlL (tab_at hL) (lib_at hL) (by omega)
 rw[<-hnz1] at hv
 refine (calls_of_sv hv (.cons (.agg (okv_vrl hok0)) (.cons (.agg (okv_vrl hok1)) .nil))).mono ?_
 rintro e W' ⟨rfl,hu⟩
 exact⟨_,rfl,post_bool kids full params_in hW' rfl rfl rfl rfl (by kernel_rfl) Tryz.underlying4 hu⟩
end Go.Proofs.YtfgeelpahicelaaGreatDoor.topShortened
