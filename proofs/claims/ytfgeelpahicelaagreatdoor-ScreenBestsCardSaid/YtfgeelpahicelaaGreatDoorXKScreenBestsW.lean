/- KScreenBestsW: ScreenBests: the contract, read as the row asks it. -/
import Derived.Test.YtfgeelpahicelaaGreatDoorRows
import Derived.Test.YtfgeelpahicelaaGreatDoorXG16
import Derived.Test.YtfgeelpahicelaaGreatDoorXG17
import Derived.Test.YtfgeelpahicelaaGreatDoorXG13
import Derived.Test.YtfgeelpahicelaaGreatDoorXKnL3
import Derived.Test.YtfgeelpahicelaaGreatDoorXKnL5
set_option linter.unusedVariables false
set_option linter.unusedSimpArgs false
namespace Go.Proofs.YtfgeelpahicelaaGreatDoor.screenBests
open Go.ChangeShapes Go.WideShapes Go.ChangeAt Go.RowKit Go.Dw Go.Dx
set_option maxRecDepth 100000
theorem kids:Kids Tryz.prog (·<Tryz.prog.types.size):=kids_rows (by kernel_rfl) (by kernel_rfl)
theorem full:∀t e,t<Tryz.prog.types.size->Tryz.prog.underlying t=some (.slice e)->0<Tryz.prog.cellsOf e:=slices_full_of Tryz.prog (by kernel_rfl)
theorem params_in:∀t∈Tryz.f13.params.toList,t<Tryz.prog.types.size:=by
 rw[Tryz.params13];have:Tryz.prog.types.size=Tryz.prog.types.size:=rfl;intro t ht;simp only[List.mem_cons,List.not_mem_nil,or_false] at ht
 first|(rcases ht with rfl|rfl|rfl <;> exact Nat.le_of_ble_eq_true (by kernel_rfl))
theorem contract (H:Type)(enc:TypeId×Value->H)(W:World)(base:Nat)(args:Array Value)(ds gs:List (DataW H))(ZAi:List MemPlace)
  (hval0:∀(j:Nat) t v,Tryz.f13.params[j]?=some t->args[j]?=some v->Value.okWide Tryz.prog W .any base t v)
  (hW:DataW.Whole enc Tryz.prog Tryz.f13.params.toList Rows.screenBestsSpec.vars false W args.toList ds gs ZAi) (hL:laidMetH Tryz.prog Rows.screenChecksRow.laid W) :
  Calls Tryz.prog 13 args W fun e W'=>∃v,e=.returned v/\Rows.screenBestsSpec.post enc Tryz.prog Tryz.f13 false true false false W args v W':=by
 have hW':=hW;obtain⟨p,q,hA0,hV,rfl,hfz,hnd⟩:=hW;have hA:DataW.TrodAll enc Tryz.prog W 0 (fun _=>true) true Tryz.f13.params.toList args.toList ds p:=hA0;have hval:=hval0;rw[Tryz.params13] at hA hval;obtain⟨rfl,rfl⟩:=trodVars_none hV;obtain⟨v0,v1,v2,d0,d1,d2,p0,p1,p2,rfl,rfl,rfl,⟨n0,h0⟩,⟨n1,h1⟩,⟨n2,h2⟩⟩:=trodAll_three hA;obtain⟨cs,rfl⟩:∃cs,v0=.agg cs:=by
  have:=hval 0 31 v0 rfl rfl;simp only[Value.okWide,Tryz.underlying31] at this;obtain⟨cs,h,_⟩:=this;exact⟨cs,h⟩
 obtain⟨b1,len1,cap1,rfl⟩:=okWide_slice Tryz.underlying80 (hval 1 80 _ rfl rfl);obtain⟨cs2,rfl⟩:∃cs,v2=.agg cs:=by
  have:=hval 2 95 v2 rfl rfl;simp only[Value.okWide,Tryz.underlying95] at this;obtain⟨cs,h,_⟩:=this;exact⟨cs,h⟩
 obtain⟨t,hok,hT,hF⟩:=ZNs ⟨n0,_,h0⟩;obtain⟨w1,a1,l1,c1,e1,ok1,nz1,hL1,hl1,hF1⟩:=ZPS ⟨n1,_,h1⟩;have e1':Value.slice b1 len1 cap1=w1:=by simpa [Value.cells] using e1
 subst e1';obtain⟨v,Q,aq,cq,hok2,hnz2,hv2,hQ,hLQ⟩:=ZO5 ⟨n2,_,h2⟩;have hv:=ZHf (cq:=cq) (cl:=c1) hT hF hL1 hF1 hl1 hv2 hQ hLQ (ZRz hL);rw[<-nz1,<-hnz2] at hv;refine (ZLK hv (.cons (.agg (ZOA hok)) (.cons (ZSN ok1) (.cons (.agg (ZOA hok2)) .nil)))).mono ?_;rintro e W' ⟨rfl,hu⟩;exact⟨_,rfl,ZNd kids full params_in hW' rfl rfl rfl rfl (by kernel_rfl) Tryz.underlying4 hu⟩
end Go.Proofs.YtfgeelpahicelaaGreatDoor.screenBests
