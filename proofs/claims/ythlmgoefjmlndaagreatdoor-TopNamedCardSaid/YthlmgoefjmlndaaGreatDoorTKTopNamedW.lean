/- KTopNamedW: TopNamed: the contract, read as the row asks it. -/
import Derived.Test.YthlmgoefjmlndaaGreatDoorRows
import Derived.Test.YthlmgoefjmlndaaGreatDoorTG30
import Derived.Test.YthlmgoefjmlndaaGreatDoorTG29
import Derived.Test.YthlmgoefjmlndaaGreatDoorTG8
import Derived.Test.YthlmgoefjmlndaaGreatDoorTKnV
import Derived.Test.YthlmgoefjmlndaaGreatDoorTG31
set_option linter.unusedVariables false
set_option linter.unusedSimpArgs false
namespace Go.Proofs.YthlmgoefjmlndaaGreatDoor.topNamed
open Go.ChangeShapes Go.WideShapes Go.ChangeAt Go.RowKit Go.Dw Go.Dx
set_option maxRecDepth 100000
theorem kids:Kids Tryz.prog (·<Tryz.prog.types.size):=kids_rows (by kernel_rfl) (by kernel_rfl)
theorem full:∀t e,t<Tryz.prog.types.size->Tryz.prog.underlying t=some (.slice e)->0<Tryz.prog.cellsOf e:=slices_full_of Tryz.prog (by kernel_rfl)
theorem ZPQ:∀t∈Tryz.f17.params.toList,t<Tryz.prog.types.size:=by
 rw[Tryz.params17];have:Tryz.prog.types.size=Tryz.prog.types.size:=rfl;intro t ht;simp only[List.mem_cons,List.not_mem_nil,or_false] at ht
 first|(rcases ht with rfl|rfl|rfl <;> exact Nat.le_of_ble_eq_true (by kernel_rfl))
theorem contract (H:Type)(enc:TypeId×Value->H)(W:World)(base:Nat)(args:Array Value)(ds gs:List (DataW H))(ZAe:List MemPlace)
  (hval0:∀(j:Nat) t v,Tryz.f17.params[j]?=some t->args[j]?=some v->Value.okWide Tryz.prog W .any base t v)
  (hW:DataW.Whole enc Tryz.prog Tryz.f17.params.toList Rows.topNamedSpec.vars false W args.toList ds gs ZAe) (hSz:(DataW.weightsEach Tryz.prog (Tryz.f17.params.toList++(OpenSpec.ofChange Rows.topNamedSpec).bare.plain.varTypes Tryz.prog) (ds++gs)).all (·<=reachBytes)=true) (hL:laidMetH Tryz.prog Rows.worksChecksRow.laid W) :
  Calls Tryz.prog 17 args W fun e W'=>∃v,e=.returned v/\Rows.topNamedSpec.post enc Tryz.prog Tryz.f17 false true false false W args v W':=by
 have hW':=hW;obtain⟨p,q,hA0,hV,rfl,hfz,hnd⟩:=hW;have hA:DataW.TrodAll enc Tryz.prog W 0 (fun _=>true) true Tryz.f17.params.toList args.toList ds p:=hA0;have hval:=hval0;rw[Tryz.params17] at hA hval;obtain⟨rfl,rfl⟩:=trodVars_none hV;obtain⟨v0,v1,v2,d0,d1,d2,p0,p1,p2,rfl,rfl,rfl,⟨n0,h0⟩,⟨n1,h1⟩,⟨n2,h2⟩⟩:=trodAll_three hA
 have hwt2:∀k∈d2.weights Tryz.prog 22,k<=reachBytes:=fun k hk=>by
  have:=List.all_eq_true.1 hSz k (DataW.weights_mem_each (j:=2) (t:=22) (d:=d2) (by rw[Tryz.params17];rfl) rfl k hk);exact of_decide_eq_true this
 obtain⟨cs0,rfl⟩:∃cs,v0=.agg cs:=by
  have:=hval 0 91 v0 rfl rfl;simp only[Value.okWide,Tryz.underlying91] at this;obtain⟨cs,h,_⟩:=this;exact⟨cs,h⟩
 obtain⟨cs1,rfl⟩:∃cs,v1=.agg cs:=by
  have:=hval 1 93 v1 rfl rfl;simp only[Value.okWide,Tryz.underlying93] at this;obtain⟨cs,h,_⟩:=this;exact⟨cs,h⟩
 obtain⟨b2,len2,cap2,rfl⟩:=okWide_slice Tryz.underlying22 (hval 2 22 _ rfl rfl);obtain⟨w2,a2,l2,c2,e2,ok2,nz2,hL2,hn2,hb2,hF2⟩:=ZR9 ⟨n2,_,h2,hwt2⟩;have e2':Value.slice b2 len2 cap2=w2:=by simpa [Value.cells] using e2
 subst e2';have hl2:Go.Dw.Len l2:=by show l2.length<_;omega
 obtain⟨t,hok0,hT,hF⟩:=ZQu ⟨n0,_,h0⟩;obtain⟨s,hok1,hS,hSF⟩:=ZUe ⟨n1,_,h1⟩;have hv:=ZMU (cap:=c2) hT hF hSF hS (ZOr ⟨n0,_,h0⟩) hL2 hn2 hF2 hl2 (ZVy hL);rw[<-nz2] at hv;refine (ZMj hv (.cons (.agg (ZQy hok0)) (.cons (.agg (ZQy hok1)) (.cons (ZVr ok2) .nil)))).mono ?_;rintro e W' ⟨rfl,hu⟩;exact⟨_,rfl,ZRh kids full ZPQ hW' rfl rfl rfl rfl (by kernel_rfl) Tryz.underlying4 hu⟩
end Go.Proofs.YthlmgoefjmlndaaGreatDoor.topNamed
