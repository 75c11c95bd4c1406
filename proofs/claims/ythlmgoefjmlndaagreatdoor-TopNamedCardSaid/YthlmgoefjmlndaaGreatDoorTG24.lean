/- M4: WorksSames. -/
import Derived.Test.YthlmgoefjmlndaaGreatDoorTG2
import Derived.Test.YthlmgoefjmlndaaGreatDoorTG23
import Derived.Test.YthlmgoefjmlndaaGreatDoorTG22
import Derived.Test.YthlmgoefjmlndaaGreatDoorTG17
import Derived.Test.YthlmgoefjmlndaaGreatDoorTG21
set_option linter.unusedVariables false
set_option linter.unusedSimpArgs false
namespace Go.Dw
open Go Go.Dx Go.Proofs
set_option maxRecDepth 100000
def lnkA (x:WkR):Str:=if x.kind=1 then 35::x.a else x.a
def lnkP (x:WkR)(u v:Str):Prop:=(x.kind=1\/x.kind=2)/\((lnkA x=u/\x.b=v)\/(x.b=u/\lnkA x=v))
instance (x:WkR)(u v:Str):Decidable (lnkP x u v):=by unfold lnkP;infer_instance
def prvP (s:List WkR)(p:List Str):Prop:=p≠[]/\p.Nodup/\chnP (nxtW s) p
noncomputable instance (s:List WkR)(p:List Str):Decidable (prvP s p):=Classical.propDecidable _
def fndP (s:List WkR)(k n:Nat)(u v:Str):Prop:=k=0\/∃x∈s.take n,lnkP x u v
noncomputable instance (s:List WkR)(k n:Nat)(u v:Str):Decidable (fndP s k n u v):=Classical.propDecidable _
theorem ZOO {l:List WkR}{a b:Str}(hc:(chkS l).2=0)(ha:ZEB (ZAd (mrgU ltW l)) a=true)(hb:ZEB (ZAd (mrgU ltW l)) b=true):ZHA l a b=(ZBr (nxtW (ZAd (mrgU ltW l))) a b (nodW (ZAd (mrgU ltW l))).length,0):=by
 unfold ZHA;rw[if_neg (fun q=>q hc),if_neg (fun q=>by rw[ha,hb] at q;simp at q)]
theorem ZVx {s:List WkR}:(ZBM s).length<=(nodW s).length/\∀w∈ZBM s,w.1.length<=(nodW s).length/\w.2.1.length<=(nodW s).length:=by
 have hs:(ZAN s).length<=(nodW s).length:=ZF4 ZAR _;refine⟨?_,fun w hw=>?_⟩
 ·unfold ZBM ZBy ZB6
  rw[List.length_map];have h1:=ZKo (((ZAN s).filter fun k=>!ZBY k).map (repW s));rw[List.length_map] at h1;have h2:=List.length_filter_le (fun k=>!ZBY k) (ZAN s);omega
 ·obtain⟨q,-,rfl⟩:=List.mem_map.1 (show w∈(ZB6 (repW s) (ZAN s)).map _ from hw)
  unfold ZBO;refine⟨Nat.le_trans (Nat.le_trans (List.length_filter_le _ _) (List.length_filter_le _ _)) hs,?_⟩;simp only[List.length_map];exact Nat.le_trans (Nat.le_trans (List.length_filter_le _ _) (List.length_filter_le _ _)) hs
theorem ZNC {s:List WkR}{k:Str}:ZEB s k=true ↔ k∈nodW s/\ZBY k=false:=by
 unfold ZEB ZBY;simp
end Go.Dw
