/- KWorksWorksW: WorksWorks: the contract, read as the row asks it. -/
import Derived.Test.YthlmgoefjmlndaaGreatDoorRows
import Derived.Test.YthlmgoefjmlndaaGreatDoorZG24
import Derived.Test.YthlmgoefjmlndaaGreatDoorZG25
import Derived.Test.YthlmgoefjmlndaaGreatDoorZG8
import Derived.Test.YthlmgoefjmlndaaGreatDoorZKnV
set_option linter.unusedVariables false
set_option linter.unusedSimpArgs false
namespace Go.Proofs.YthlmgoefjmlndaaGreatDoor.worksWorks
open Go.ChangeShapes Go.WideShapes Go.ChangeAt Go.RowKit Go.Dw Go.Dx
set_option maxRecDepth 100000
theorem kids:Kids Tryz.prog (·<Tryz.prog.types.size):=kids_rows (by kernel_rfl) (by kernel_rfl)
theorem full:∀t e,t<Tryz.prog.types.size->Tryz.prog.underlying t=some (.slice e)->0<Tryz.prog.cellsOf e:=slices_full_of Tryz.prog (by kernel_rfl)
theorem ZOg:∀t∈Tryz.f5.params.toList,t<Tryz.prog.types.size:=by
 rw[Tryz.params5];have:Tryz.prog.types.size=Tryz.prog.types.size:=rfl;intro t ht;simp only[List.mem_cons,List.not_mem_nil,or_false] at ht
 first|(rcases ht with rfl <;> exact Nat.le_of_ble_eq_true (by kernel_rfl))
theorem contract (H:Type)(enc:TypeId×Value->H)(W:World)(base:Nat)(args:Array Value)(ds gs:List (DataW H))(ZAr:List MemPlace)
  (hval0:∀(j:Nat) t v,Tryz.f5.params[j]?=some t->args[j]?=some v->Value.okWide Tryz.prog W .any base t v)
  (hW:DataW.Whole enc Tryz.prog Tryz.f5.params.toList Rows.worksWorksSpec.vars false W args.toList ds gs ZAr) (hSz:(DataW.weightsEach Tryz.prog (Tryz.f5.params.toList++(OpenSpec.ofChange Rows.worksWorksSpec).bare.plain.varTypes Tryz.prog) (ds++gs)).all (·<=reachBytes)=true) (hL:laidMetH Tryz.prog Rows.worksChecksRow.laid W) :
  Calls Tryz.prog 5 args W fun e W'=>∃v,e=.returned v/\Rows.worksWorksSpec.post enc Tryz.prog Tryz.f5 false true false false W args v W':=by
 have hW':=hW;obtain⟨p,q,hA0,hV,rfl,hfz,hnd⟩:=hW;have hA:DataW.TrodAll enc Tryz.prog W 0 (fun _=>true) true Tryz.f5.params.toList args.toList ds p:=hA0;have hval:=hval0;rw[Tryz.params5] at hA hval;obtain⟨rfl,rfl⟩:=trodVars_none hV;obtain⟨v0,d0,rfl,rfl,n0,h0⟩:=trodAll_one hA
 have hwt0:∀k∈d0.weights Tryz.prog 22,k<=reachBytes:=fun k hk=>by
  have:=List.all_eq_true.1 hSz k (DataW.weights_mem_each (j:=0) (t:=22) (d:=d0) (by rw[Tryz.params5];rfl) rfl k hk);exact of_decide_eq_true this
 obtain⟨b0,len0,cap0,rfl⟩:=okWide_slice Tryz.underlying22 (hval 0 22 _ rfl rfl);obtain⟨w0,a0,l0,c0,e0,ok0,nz0,hL0,hn0,hb0,hF0⟩:=ZRK ⟨n0,_,h0,hwt0⟩;have e0':Value.slice b0 len0 cap0=w0:=by simpa [Value.cells] using e0
 subst e0';have hl0:Go.Dw.Len l0:=by show l0.length<_;omega
 have hv:=ZJO (cap:=c0) hL0 hn0 hF0 hl0 (ZTL hL);rw[<-nz0] at hv;refine (ZMF hv (.cons (ZS9 ok0) .nil)).mono ?_;rintro e W' ⟨rfl,hu⟩;exact⟨_,rfl,ZPt kids full ZOg hW' rfl rfl rfl rfl (by kernel_rfl) Tryz.underlying4 hu⟩
end Go.Proofs.YthlmgoefjmlndaaGreatDoor.worksWorks
