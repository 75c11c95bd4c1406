/- SR: reading a task of chapter 11. -/
import Derived.Test.YtfgeelpahicelaaGreatDoorYG5
import Derived.Test.YtfgeelpahicelaaGreatDoorYG2
import Derived.Test.YtfgeelpahicelaaGreatDoorYG19
import Derived.Test.YtfgeelpahicelaaGreatDoorYG15
set_option linter.unusedVariables false
set_option linter.unusedSimpArgs false
namespace Go.Dw
open Go Go.Dx Go.Proofs
set_option maxRecDepth 100000
section
variable {H:Type}{enc:TypeId×Value->H}{W:World}{cs:List Value}
end
section
variable {P:Program}{H:Type}{enc:TypeId×Value->H}{W:World}{cs:List Value}{t e:TypeId}
end
section
variable {H:Type}{enc:TypeId×Value->H}{W:World}{cs:List Value}
theorem ZL3 (h:Rd enc Tryz.prog W 75 cs):∃x:Ttl,cs.all (okv W.heap.size)=true/\TtlR (ro W) (cs.map nz) x/\x.Fit:=by
 have cS:Tryz.prog.cellsOf 75=3:=by kernel_rfl
 have c3:Tryz.prog.cellsOf 3=1:=by kernel_rfl
 have c9:Tryz.prog.cellsOf 9=1:=by kernel_rfl
 obtain⟨h1,h2⟩:=ZLX Tryz.underlying75 h;rw[cS] at h1;obtain⟨x0,x1,x2,rfl⟩:∃x0 x1 x2,cs=[x0,x1,x2]:=by
  match cs,h1 with
  | [x0,x1,x2],_=>exact⟨x0,x1,x2,rfl⟩
 have f0:Rd enc Tryz.prog W 3 (([x0,x1,x2].drop 0).take (Tryz.prog.cellsOf 3)):=h2 0 _ rfl;have f1:Rd enc Tryz.prog W 3 (([x0,x1,x2].drop 1).take (Tryz.prog.cellsOf 3)):=h2 1 _ rfl;have f2:Rd enc Tryz.prog W 9 (([x0,x1,x2].drop 2).take (Tryz.prog.cellsOf 9)):=h2 2 _ rfl;rw[c3] at f0 f1;rw[c9] at f2;obtain⟨n0,e0,l0⟩:=ZMZ Tryz.underlying3 f0;obtain⟨n1,e1,l1⟩:=ZMZ Tryz.underlying3 f1;obtain⟨n2,e2,l2⟩:=ZFK Tryz.underlying9 f2;simp at e0 e1 e2;subst e0;subst e1;subst e2;exact⟨⟨n0,n1,n2⟩,rfl,rfl,⟨l0,l1,l2⟩⟩
theorem ZHc (h:Rd enc Tryz.prog W 58 cs):∃v a l cap,cs=[v]/\okv W.heap.size v=true/\nz v=.slice a l.length cap/\ZAU 3 TtlR (ro W) a l/\Len l/\∀s∈l,s.Fit :=
 ZNf (R:=TtlR) (Fit:=Ttl.Fit) Tryz.underlying58 (k:=3) (by kernel_rfl) (by decide) (fun row hr=>ZL3 hr) h
end
end Go.Dw
