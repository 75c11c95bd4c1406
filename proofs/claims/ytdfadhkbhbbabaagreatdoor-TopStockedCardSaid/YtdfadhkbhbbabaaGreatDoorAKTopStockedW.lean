/- KTopStockedW: TopStocked: the contract, read as the row asks it. -/
import Derived.Test.YtdfadhkbhbbabaaGreatDoorRows
import Derived.Test.YtdfadhkbhbbabaaGreatDoorAG26
import Derived.Test.YtdfadhkbhbbabaaGreatDoorAG7
import Derived.Test.YtdfadhkbhbbabaaGreatDoorAKnS
set_option linter.unusedVariables false
set_option linter.unusedSimpArgs false
namespace Go.Proofs.YtdfadhkbhbbabaaGreatDoor.topStocked
open Go.ChangeShapes Go.WideShapes Go.ChangeAt Go.RowKit Go.Dw Go.Dx
set_option maxRecDepth 100000
theorem kids:Kids Tryz.prog (·<Tryz.prog.types.size):=kids_rows (by kernel_rfl) (by kernel_rfl)
theorem full:∀t e,t<Tryz.prog.types.size->Tryz.prog.underlying t=some (.slice e)->0<Tryz.prog.cellsOf e:=slices_full_of Tryz.prog (by kernel_rfl)
theorem ZRF:∀t∈Tryz.f3.params.toList,t<Tryz.prog.types.size:=by
 rw[Tryz.params3];have:Tryz.prog.types.size=Tryz.prog.types.size:=rfl;intro t ht;simp only[List.mem_cons,List.not_mem_nil,or_false] at ht
 first|(rcases ht with rfl|rfl|rfl <;> exact Nat.le_of_ble_eq_true (by kernel_rfl))
theorem contract (H:Type)(enc:TypeId×Value->H)(W:World)(base:Nat)(args:Array Value)(ds gs:List (DataW H))(ZAd:List MemPlace)
  (hval0:∀(j:Nat) t v,Tryz.f3.params[j]?=some t->args[j]?=some v->Value.okWide Tryz.prog W .any base t v)
  (hW:DataW.Whole enc Tryz.prog Tryz.f3.params.toList Rows.topStockedSpec.vars false W args.toList ds gs ZAd) (hL:laidMetH Tryz.prog Rows.topStockedRow.laid W) :
  Calls Tryz.prog 3 args W fun e W'=>∃v,e=.returned v/\Rows.topStockedSpec.post enc Tryz.prog Tryz.f3 false true false false W args v W':=by
 have hW':=hW;obtain⟨p,q,hA0,hV,rfl,hfz,hnd⟩:=hW;have hA:DataW.TrodAll enc Tryz.prog W 0 (fun _=>true) true Tryz.f3.params.toList args.toList ds p:=hA0;have hval:=hval0;rw[Tryz.params3] at hA hval;obtain⟨rfl,rfl⟩:=trodVars_none hV;obtain⟨v0,v1,v2,d0,d1,d2,p0,p1,p2,rfl,rfl,rfl,⟨n0,h0⟩,⟨n1,h1⟩,⟨n2,h2⟩⟩:=trodAll_three hA;obtain⟨cs0,rfl⟩:∃cs,v0=.agg cs:=by
  have:=hval 0 28 v0 rfl rfl;simp only[Value.okWide,Tryz.underlying28] at this;obtain⟨cs,h,_⟩:=this;exact⟨cs,h⟩
 obtain⟨b1,len1,cap1,rfl⟩:=okWide_slice Tryz.underlying29 (hval 1 29 _ rfl rfl);obtain⟨w1,a1,l1,c1,e1,ok1,nz1,hL1,hl1,-⟩:=ZR5 ⟨n1,_,h1⟩;have e1':Value.slice b1 len1 cap1=w1:=by simpa [Value.cells] using e1
 subst e1';obtain⟨s,d,hok0,hT,hSi,hSL⟩:=ZTl ⟨n0,_,h0⟩;obtain⟨s2,rfl⟩:=okWide_int Tryz.underlying5 (hval 2 5 _ rfl rfl);obtain⟨x2,e2,hx2⟩:=ZVg Tryz.underlying5 ⟨n2,_,h2⟩;have e2':Value.int .u8 s2=Value.int .u8 x2:=by simpa [Value.cells] using e2
 cases e2';have hv:=ZJt (cm:=c1) hSi hSL hL1 hl1 hx2 (ZUr hL);rw[<-nz1,<-hT] at hv;refine (ZMM hv (.cons (.agg (ZT2 hok0)) (.cons (ZVL ok1) (.cons (.int _ _) .nil)))).mono ?_;rintro e W' ⟨rfl,hu⟩;exact⟨_,rfl,ZPP kids full ZRF hW' rfl rfl rfl rfl (by kernel_rfl) Tryz.underlying4 hu⟩
end Go.Proofs.YtdfadhkbhbbabaaGreatDoor.topStocked
