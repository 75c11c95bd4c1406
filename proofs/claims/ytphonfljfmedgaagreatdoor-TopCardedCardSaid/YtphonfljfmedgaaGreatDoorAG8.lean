/- A1: contracts of small functions of chapter 12: comparing strings, numbers and records; keys. -/
import Derived.Test.YtphonfljfmedgaaGreatDoorAG2
import Derived.Test.YtphonfljfmedgaaGreatDoorAG3
import Derived.Test.YtphonfljfmedgaaGreatDoorAG4
import Derived.Test.YtphonfljfmedgaaGreatDoorAG7
set_option linter.unusedVariables false
set_option linter.unusedSimpArgs false
namespace Go.Dw
open Go Go.Dx Go.Proofs
set_option maxRecDepth 100000
theorem ZJt (a:List UInt8)(h:Heap):Sv Tryz.prog 135 [str a] h (RetP fun v h'=>v=.bool false/\h'=h):=by
 refine ZAF Tryz.func135 rfl (by rw[Tryz.ntmps135];rfl) ?_;show Wc Tryz.prog ⟨135,6,none⟩ _ _ _ _ _;refine zy ?_;refine zD (A_ff (fun e=>e rfl) (ZFI rfl rfl)) ?_;exact ZAB (ZAC rfl ⟨rfl,rfl⟩)
theorem ZON (a b:List UInt8)(h:Heap):Sv Tryz.prog 90 [str a,str b] h (RetP fun v h'=>v=i64 (cmpI ltB a b)/\h'=h):=by
 refine ZAF Tryz.func90 rfl (by rw[Tryz.ntmps90];rfl) ?_;show Wc Tryz.prog ⟨90,20,none⟩ _ _ _ _ _;refine zy ?_;refine zV (ZJt _ _) ?_;refine zV (ZJt _ _) ?_;refine zC (ZQL rfl rfl) (fun h1=>?_) (fun h1=>?_)
 ·refine zy ?_
  exact ZAB (ZAC rfl ⟨by rw[cmpI,if_pos h1];rfl,rfl⟩)
 refine zy ?_;refine zC (ZRe rfl rfl) (fun h2=>?_) (fun h2=>?_)
 ·refine zy ?_
  exact ZAB (ZAC rfl ⟨by rw[cmpI,if_neg h1,if_pos h2];rfl,rfl⟩)
 refine zy ?_;exact ZAB (ZAC rfl ⟨by rw[cmpI,if_neg h1,if_neg h2];rfl,rfl⟩)
theorem ZKY {l:List Int}{k:Nat}(hk:k<l.length)(h:ZBb l=ZBb (l.drop k)):(l[k]≠0->ZBb l=l[k])/\(l[k]=0->ZBb l=ZBb (l.drop (k+1))):=by
 rw[List.drop_eq_getElem_cons hk,ZBb] at h;exact⟨fun g=>by rw[h,if_pos g],fun g=>by rw[h,if_neg (by omega)]⟩
theorem ZQE {α:Type}{enc:α->Value}{h:Heap}{t:TypeId}{p:Bool}{l:List α}{cs:List Value}(hc:cs=l.map enc):ZBf enc (h.add (.cells cs t p)) (some ⟨h.nx,0,none⟩) l:=by
 subst hc;intro i hi;refine⟨_,_,_,rfl,ZAP Heap.get_add_same ?_⟩;simp[ZAq,hi]
end Go.Dw
