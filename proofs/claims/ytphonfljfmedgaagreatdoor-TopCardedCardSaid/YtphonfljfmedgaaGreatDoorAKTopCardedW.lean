/- KTopCardedW: TopCarded: the contract, read as the row asks it. -/
import Derived.Test.YtphonfljfmedgaaGreatDoorRows
import Derived.Test.YtphonfljfmedgaaGreatDoorAG22
import Derived.Test.YtphonfljfmedgaaGreatDoorAG23
import Derived.Test.YtphonfljfmedgaaGreatDoorAG13
import Derived.Test.YtphonfljfmedgaaGreatDoorAKnY
set_option linter.unusedVariables false
set_option linter.unusedSimpArgs false
namespace Go.Proofs.YtphonfljfmedgaaGreatDoor.topCarded
open Go.ChangeShapes Go.WideShapes Go.ChangeAt Go.RowKit Go.Dw Go.Dx
set_option maxRecDepth 100000
theorem kids:Kids Tryz.prog (·<Tryz.prog.types.size):=kids_rows (by kernel_rfl) (by kernel_rfl)
theorem full:∀t e,t<Tryz.prog.types.size->Tryz.prog.underlying t=some (.slice e)->0<Tryz.prog.cellsOf e:=slices_full_of Tryz.prog (by kernel_rfl)
theorem ZOP:∀t∈Tryz.f3.params.toList,t<Tryz.prog.types.size:=by
 rw[Tryz.params3];have:Tryz.prog.types.size=Tryz.prog.types.size:=rfl;intro t ht;simp only[List.mem_cons,List.not_mem_nil,or_false] at ht
 first|(rcases ht with rfl|rfl|rfl <;> exact Nat.le_of_ble_eq_true (by kernel_rfl))
theorem contract (H:Type)(enc:TypeId×Value->H)(W:World)(base:Nat)(args:Array Value)(ds gs:List (DataW H))(ZAn:List MemPlace)
  (hval0:∀(j:Nat) t v,Tryz.f3.params[j]?=some t->args[j]?=some v->Value.okWide Tryz.prog W .any base t v)
  (hW:DataW.Whole enc Tryz.prog Tryz.f3.params.toList Rows.topCardedSpec.vars false W args.toList ds gs ZAn) (hSz:(DataW.weightsEach Tryz.prog (Tryz.f3.params.toList++(OpenSpec.ofChange Rows.topCardedSpec).bare.plain.varTypes Tryz.prog) (ds++gs)).all (·<=reachBytes)=true) (hL:laidMetH Tryz.prog Rows.topCardedRow.laid W) :
  Calls Tryz.prog 3 args W fun e W'=>∃v,e=.returned v/\Rows.topCardedSpec.post enc Tryz.prog Tryz.f3 false true false false W args v W':=by
 have hW':=hW;obtain⟨p,q,hA0,hV,rfl,hfz,hnd⟩:=hW;have hA:DataW.TrodAll enc Tryz.prog W 0 (fun _=>true) true Tryz.f3.params.toList args.toList ds p:=hA0;have hval:=hval0;rw[Tryz.params3] at hA hval;obtain⟨rfl,rfl⟩:=trodVars_none hV;obtain⟨v0,v1,v2,d0,d1,d2,p0,p1,p2,rfl,rfl,rfl,⟨n0,h0⟩,⟨n1,h1⟩,⟨n2,h2⟩⟩:=trodAll_three hA
 have hwt0:∀k∈d0.weights Tryz.prog 31,k<=reachBytes:=fun k hk=>by
  have:=List.all_eq_true.1 hSz k (DataW.weights_mem_each (j:=0) (t:=31) (d:=d0) (by rw[Tryz.params3];rfl) rfl k hk);exact of_decide_eq_true this
 have hwt1:∀k∈d1.weights Tryz.prog 32,k<=reachBytes:=fun k hk=>by
  have:=List.all_eq_true.1 hSz k (DataW.weights_mem_each (j:=1) (t:=32) (d:=d1) (by rw[Tryz.params3];rfl) rfl k hk);exact of_decide_eq_true this
 obtain⟨cs0,rfl⟩:∃cs,v0=.agg cs:=by
  have:=hval 0 31 v0 rfl rfl;simp only[Value.okWide,Tryz.underlying31] at this;obtain⟨cs,h,_⟩:=this;exact⟨cs,h⟩
 obtain⟨⟨cs2⟩,rfl⟩:∃cs,v2=.agg cs:=by
  have:=hval 2 34 v2 rfl rfl;simp only[Value.okWide,Tryz.underlying34] at this;obtain⟨cs,h,_⟩:=this;exact⟨cs,h⟩
 obtain⟨b1,len1,cap1,rfl⟩:=okWide_slice Tryz.underlying32 (hval 1 32 _ rfl rfl);obtain⟨w1,a1,l1,c1,e1,ok1,nz1,hL1,ha1,hc1,hl1,hF1⟩:=ZQp ⟨n1,_,h1,hwt1⟩;have e1':Value.slice b1 len1 cap1=w1:=by simpa [Value.cells] using e1
 subst e1';obtain⟨t,d,hok0,hT,hTR,hTF⟩:=ZTW ⟨n0,_,h0,hwt0⟩;obtain⟨x2,y2,e2,hx2,hy2⟩:=ZQI ⟨n2,_,h2⟩;have e2':cs2=[.int .u16 x2,.int .u16 y2]:=e2;subst e2';have hv:=ZKJ hTF hTR hL1 ha1 hc1 hl1 hF1 (ZT1 hL) hx2 hy2;rw[<-nz1,<-hT] at hv;refine (ZK9 hv (.cons (.agg (ZSn hok0)) (.cons (ZT7 ok1) (.cons (.agg (.cons (.int _ _) (.cons (.int _ _) .nil))) .nil)))).mono ?_;rintro e W' ⟨rfl,hu⟩;exact⟨_,rfl,ZPl kids full ZOP hW' rfl rfl rfl rfl (by kernel_rfl) Tryz.underlying4 hu⟩
end Go.Proofs.YtphonfljfmedgaaGreatDoor.topCarded
