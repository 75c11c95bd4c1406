/- KnV: what a row's condition says of the library's variables that it lists. -/
import Derived.Test.YthlmgoefjmlndaaGreatDoorRows
import Derived.Lib.LaidTab
import Derived.Lib.LaidIn
import Derived.WalkKit
import Derived.ProofKit
import Derived.OpenShut
import Derived.Deep.DeepHandedRow
import Derived.Stop.LaidErr
import Derived.Test.YthlmgoefjmlndaaGreatDoorTG8
import Derived.Test.YthlmgoefjmlndaaGreatDoorTG9
set_option linter.unusedVariables false
set_option linter.unusedSimpArgs false
namespace Go.Proofs.YthlmgoefjmlndaaGreatDoor
open Go.ChangeShapes Go.WideShapes Go.ChangeAt Go.RowKit
set_option maxRecDepth 100000
theorem ZOJ {W:World}(h:laidMetH Tryz.prog Rows.worksChecksRow.laid W):laidMet Tryz.prog Rows.worksChecksRow.laid W:=by
 have e:(Rows.worksChecksRow.laid.filter fun x=>x.2.handleName?.isSome)=[]:=by kernel_rfl
 unfold laidMetH at h;rw[e] at h;exact h
theorem star : "*" ++ "errors.errorString" = "*errors.errorString" := by decide
theorem ZNs (u : TypeId) (h : Tryz.prog.typeName? 3 u = some "*errors.errorString") : u = 382 :=
 typeName_ptr_named (nm := "errors.errorString") (by rw [star]; kernel_rfl) (by kernel_rfl) (by decide) u (by rw [star]; exact h)
theorem ZVy {W:World}(h:laidMetH Tryz.prog Rows.worksChecksRow.laid W):Go.Dw.WkLib (Go.Dw.ro W):=by
 have h2:=laidMet.tail (laidMet.tail (ZOJ h));have h4:=laidMet.tail (laidMet.tail h2);have h5:=laidMet.tail h4;refine Go.Dw.WkLib.of ⟨?_,?_,?_⟩
 ·exact Lib.tabIs_of_head (zs:=Lib.pow10Tab) (g:=5) (t:=405) (e:=256) (n:=20) (by kernel_rfl) (by kernel_rfl) Tryz.underlying405 Tryz.underlying256 (by kernel_rfl) (by kernel_rfl) h2
 ·obtain⟨a,s,hv,-⟩:=laid_sentinel (g:=0) (ti:=201) (tp:=382) (te:=384) (ts:=9) h5 (by kernel_rfl) (by kernel_rfl) Tryz.underlying201 ZNs Tryz.underlying382 Tryz.underlying384 rfl rfl Tryz.underlying9 (by kernel_rfl) (by kernel_rfl)
  exact⟨_,_,hv⟩
 ·obtain⟨a,s,hv,-⟩:=laid_sentinel (g:=1) (ti:=201) (tp:=382) (te:=384) (ts:=9) h4 (by kernel_rfl) (by kernel_rfl) Tryz.underlying201 ZNs Tryz.underlying382 Tryz.underlying384 rfl rfl Tryz.underlying9 (by kernel_rfl) (by kernel_rfl)
  exact⟨_,_,hv⟩
end Go.Proofs.YthlmgoefjmlndaaGreatDoor
