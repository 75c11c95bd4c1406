/- KWorksWheresW: WorksWheres: the contract, read as the row asks it. -/
import Derived.Test.YthlmgoefjmlndaaGreatDoorRows
import Derived.Test.YthlmgoefjmlndaaGreatDoorYG23
import Derived.Test.YthlmgoefjmlndaaGreatDoorYG24
import Derived.Test.YthlmgoefjmlndaaGreatDoorYG8
import Derived.Test.YthlmgoefjmlndaaGreatDoorYKnV
set_option linter.unusedVariables false
set_option linter.unusedSimpArgs false
namespace Go.Proofs.YthlmgoefjmlndaaGreatDoor.worksWheres
open Go.ChangeShapes Go.WideShapes Go.ChangeAt Go.RowKit Go.Dw Go.Dx
set_option maxRecDepth 100000
theorem kids:Kids Tryz.prog (·<Tryz.prog.types.size):=kids_rows (by kernel_rfl) (by kernel_rfl)
theorem full:∀t e,t<Tryz.prog.types.size->Tryz.prog.underlying t=some (.slice e)->0<Tryz.prog.cellsOf e:=slices_full_of Tryz.prog (by kernel_rfl)
theorem ZPt:∀t∈Tryz.f13.params.toList,t<Tryz.prog.types.size:=by
 rw[Tryz.params13];have:Tryz.prog.types.size=Tryz.prog.types.size:=rfl;intro t ht;simp only[List.mem_cons,List.not_mem_nil,or_false] at ht
 first|(rcases ht with rfl|rfl|rfl <;> exact Nat.le_of_ble_eq_true (by kernel_rfl))
theorem contract (H:Type)(enc:TypeId×Value->H)(W:World)(base:Nat)(args:Array Value)(ds gs:List (DataW H))(ZAq:List MemPlace)
  (hval0:∀(j:Nat) t v,Tryz.f13.params[j]?=some t->args[j]?=some v->Value.okWide Tryz.prog W .any base t v)
  (hW:DataW.Whole enc Tryz.prog Tryz.f13.params.toList Rows.worksWheresSpec.vars false W args.toList ds gs ZAq) (hSz:(DataW.weightsEach Tryz.prog (Tryz.f13.params.toList++(OpenSpec.ofChange Rows.worksWheresSpec).bare.plain.varTypes Tryz.prog) (ds++gs)).all (·<=reachBytes)=true) (hL:laidMetH Tryz.prog Rows.worksChecksRow.laid W) :
  Calls Tryz.prog 13 args W fun e W'=>∃v,e=.returned v/\Rows.worksWheresSpec.post enc Tryz.prog Tryz.f13 false true false false W args v W':=by
 have hW':=hW;obtain⟨p,q,hA0,hV,rfl,hfz,hnd⟩:=hW;have hA:DataW.TrodAll enc Tryz.prog W 0 (fun _=>true) true Tryz.f13.params.toList args.toList ds p:=hA0;have hval:=hval0;rw[Tryz.params13] at hA hval;obtain⟨rfl,rfl⟩:=trodVars_none hV;obtain⟨v0,v1,v2,d0,d1,d2,p0,p1,p2,rfl,rfl,rfl,⟨n0,h0⟩,⟨n1,h1⟩,⟨n2,h2⟩⟩:=trodAll_three hA
 have hwt0:∀k∈d0.weights Tryz.prog 22,k<=reachBytes:=fun k hk=>by
  have:=List.all_eq_true.1 hSz k (DataW.weights_mem_each (j:=0) (t:=22) (d:=d0) (by rw[Tryz.params13];rfl) rfl k hk);exact of_decide_eq_true this
 have hwt1:∀k∈d1.weights Tryz.prog 53,k<=reachBytes:=fun k hk=>by
  have:=List.all_eq_true.1 hSz k (DataW.weights_mem_each (j:=1) (t:=53) (d:=d1) (by rw[Tryz.params13];rfl) rfl k hk);exact of_decide_eq_true this
 have hwt2:∀k∈d2.weights Tryz.prog 3,k<=reachBytes:=fun k hk=>by
  have:=List.all_eq_true.1 hSz k (DataW.weights_mem_each (j:=2) (t:=3) (d:=d2) (by rw[Tryz.params13];rfl) rfl k hk);exact of_decide_eq_true this
 obtain⟨b0,len0,cap0,rfl⟩:=okWide_slice Tryz.underlying22 (hval 0 22 _ rfl rfl);obtain⟨w0,a0,l0,c0,e0,ok0,nz0,hL0,hn0,hb0,hF0⟩:=ZRV ⟨n0,_,h0,hwt0⟩;have e0':Value.slice b0 len0 cap0=w0:=by simpa [Value.cells] using e0
 subst e0';have hl0:Go.Dw.Len l0:=by show l0.length<_;omega
 obtain⟨⟨cs1⟩,rfl⟩:∃cs,v1=.agg cs:=by
  have:=hval 1 53 v1 rfl rfl;simp only[Value.okWide,Tryz.underlying53] at this;obtain⟨cs,h,_⟩:=this;exact⟨cs,h⟩
 obtain⟨x1,y1,e1,hx1,hy1⟩:=ZTD ⟨n1,_,h1,hwt1⟩;have e1':cs1=[Go.Dw.str x1,Go.Dw.str y1]:=e1;subst e1';obtain⟨s2,rfl⟩:=okWide_int Tryz.underlying3 (hval 2 3 _ rfl rfl);obtain⟨x2,e2,hx2⟩:=ZMu Tryz.underlying3 (RdW.rd ⟨n2,_,h2,hwt2⟩);have e2':Value.int .i64 s2=Go.Dw.i64 x2:=by simpa [Value.cells] using e2
 cases e2';have hv:=ZIC (cap:=c0) (a:=x1) (b:=y1) (t:=s2) hL0 hn0 hF0 hl0 (ZTa hL) (by omega);rw[<-nz0] at hv;refine (ZLA hv (.cons (ZTM ok0) (.cons (.agg (.cons (.str _) (.cons (.str _) .nil))) (.cons (.int _ _) .nil)))).mono ?_;rintro e W' ⟨rfl,hu⟩;exact⟨_,rfl,ZOe kids full ZPt hW' rfl rfl rfl rfl (by kernel_rfl) Tryz.underlying4 hu⟩
end Go.Proofs.YthlmgoefjmlndaaGreatDoor.worksWheres
