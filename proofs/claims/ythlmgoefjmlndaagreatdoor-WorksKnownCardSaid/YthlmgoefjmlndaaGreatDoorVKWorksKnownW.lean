/- KWorksKnownW: WorksKnown: the contract, read as the row asks it. -/
import Derived.Test.YthlmgoefjmlndaaGreatDoorRows
import Derived.Test.YthlmgoefjmlndaaGreatDoorVG25
import Derived.Test.YthlmgoefjmlndaaGreatDoorVG26
import Derived.Test.YthlmgoefjmlndaaGreatDoorVG12
import Derived.Test.YthlmgoefjmlndaaGreatDoorVKnV
set_option linter.unusedVariables false
set_option linter.unusedSimpArgs false
namespace Go.Proofs.YthlmgoefjmlndaaGreatDoor.worksKnown
open Go.ChangeShapes Go.WideShapes Go.ChangeAt Go.RowKit Go.Dw Go.Dx
set_option maxRecDepth 100000
theorem kids:Kids Tryz.prog (·<Tryz.prog.types.size):=kids_rows (by kernel_rfl) (by kernel_rfl)
theorem full:∀t e,t<Tryz.prog.types.size->Tryz.prog.underlying t=some (.slice e)->0<Tryz.prog.cellsOf e:=slices_full_of Tryz.prog (by kernel_rfl)
theorem ZOO:∀t∈Tryz.f16.params.toList,t<Tryz.prog.types.size:=by
 rw[Tryz.params16];have:Tryz.prog.types.size=Tryz.prog.types.size:=rfl;intro t ht;simp only[List.mem_cons,List.not_mem_nil,or_false] at ht
theorem contract (H:Type)(enc:TypeId×Value->H)(W:World)(base:Nat)(args:Array Value)(ds gs:List (DataW H))(ZAg:List MemPlace)
  (hval0:∀(j:Nat) t v,Tryz.f16.params[j]?=some t->args[j]?=some v->Value.okWide Tryz.prog W .any base t v)
  (hW:DataW.Whole enc Tryz.prog Tryz.f16.params.toList Rows.worksKnownSpec.vars false W args.toList ds gs ZAg) (hL:laidMetH Tryz.prog Rows.worksChecksRow.laid W) :
  Calls Tryz.prog 16 args W fun e W'=>∃v,e=.returned v/\Rows.worksKnownSpec.post enc Tryz.prog Tryz.f16 false true false false W args v W':=by
 have hW':=hW;obtain⟨p,q,hA0,hV,rfl,hfz,hnd⟩:=hW;have hA:DataW.TrodAll enc Tryz.prog W 0 (fun _=>true) true Tryz.f16.params.toList args.toList ds p:=hA0;have hval:=hval0;rw[Tryz.params16] at hA hval;obtain⟨rfl,rfl⟩:=trodVars_none hV;obtain⟨hargs,rfl,rfl⟩:=trodAll_nil hA;obtain rfl:args=#[]:=by cases args;simp_all
 refine (ZLw (ZI7 (ZSz hL)) .nil).mono ?_;rintro e W' ⟨rfl,hu⟩;exact⟨_,rfl,ZPL kids full ZOO hW' rfl rfl rfl rfl (by kernel_rfl) Tryz.underlying4 hu⟩
end Go.Proofs.YthlmgoefjmlndaaGreatDoor.worksKnown
