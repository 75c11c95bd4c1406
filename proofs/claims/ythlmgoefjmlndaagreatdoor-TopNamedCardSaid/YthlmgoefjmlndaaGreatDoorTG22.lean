/- J1: contracts: the reference's lists of strings in order: put, has. -/
import Derived.Test.YthlmgoefjmlndaaGreatDoorTG2
import Derived.Test.YthlmgoefjmlndaaGreatDoorTG20
import Derived.Test.YthlmgoefjmlndaaGreatDoorTG13
import Derived.Test.YthlmgoefjmlndaaGreatDoorTG18
import Derived.Test.YthlmgoefjmlndaaGreatDoorTG17
set_option linter.unusedVariables false
set_option linter.unusedSimpArgs false
namespace Go.Dw
open Go Go.Dx Go.Proofs
set_option maxRecDepth 100000
end Go.Dw
namespace Go.Dw
open Go Go.Dx Go.Proofs
set_option maxRecDepth 100000
def namA (x:WkR):List Str:=if x.kind=2\/x.kind=3\/x.kind=4 then [x.a] else []
def namB (x:WkR):List Str:=if x.kind=2\/x.kind=3\/x.kind=1 then [x.b] else []
def namN (s:List WkR):List Str:=s.flatMap fun x=>namA x++namB x
theorem ZTa {s:List WkR}(hg:∀x∈s,ZA8 x=0)(k:Str):k∈namN s ↔ ZEB s k=true:=by
 have hn:ZEB s k=true ↔ k∈nodW s/\ZBY k=false:=by
  unfold ZEB ZBY;rw[Bool.and_eq_true,decide_eq_true_iff,Bool.not_eq_true']
 rw[hn];have hm:k∈namN s ↔ ∃x∈s,(k=x.a/\(x.kind=2\/x.kind=3\/x.kind=4))\/(k=x.b/\(x.kind=2\/x.kind=3\/x.kind=1)):=by
  unfold namN;rw[List.mem_flatMap]
  constructor
  ·rintro⟨x,hx,h⟩
   rcases List.mem_append.1 h with h|h
   ·unfold namA at h
    split at h
    ·rename_i q;exact⟨x,hx,.inl ⟨List.mem_singleton.1 h,q⟩⟩
    ·exact absurd h List.not_mem_nil
   ·unfold namB at h
    split at h
    ·rename_i q;exact⟨x,hx,.inr ⟨List.mem_singleton.1 h,q⟩⟩
    ·exact absurd h List.not_mem_nil
  ·rintro⟨x,hx,⟨rfl,q⟩|⟨rfl,q⟩⟩
   ·exact⟨x,hx,List.mem_append_left _ (by unfold namA;rw[if_pos q];simp)⟩
   ·exact⟨x,hx,List.mem_append_right _ (by unfold namB;rw[if_pos q];simp)⟩
 rw[hm];have hnod:k∈nodW s ↔ ∃x∈s,(x.kind=1/\(k=35::x.a\/k=x.b))\/(x.kind=2/\(k=x.a\/k=x.b))\/(x.kind=3/\(k=x.a\/k=x.b))\/(x.kind=4/\k=x.a):=by
  unfold nodW edgW;simp only[List.mem_append,ZFi,List.mem_map,ZES,List.mem_singleton]
  constructor
  ·rintro ((⟨e,⟨x,⟨hx,hk⟩,rfl⟩|⟨x,⟨hx,hk⟩,rfl⟩,h⟩|⟨e,⟨x,⟨hx,hk⟩,rfl⟩,h⟩)|⟨x,⟨hx,hk⟩,h⟩)
   ·exact⟨x,hx,.inl ⟨hk,h⟩⟩
   ·exact⟨x,hx,.inr (.inl ⟨hk,h⟩)⟩
   ·exact⟨x,hx,.inr (.inr (.inl ⟨hk,h⟩))⟩
   ·exact⟨x,hx,.inr (.inr (.inr ⟨hk,h.symm⟩))⟩
  ·rintro⟨x,hx,⟨hk,h⟩|⟨hk,h⟩|⟨hk,h⟩|⟨hk,h⟩⟩
   ·exact .inl (.inl ⟨tieI x,.inl ⟨x,⟨hx,hk⟩,rfl⟩,h⟩)
   ·exact .inl (.inl ⟨tieS x,.inr ⟨x,⟨hx,hk⟩,rfl⟩,h⟩)
   ·exact .inl (.inr ⟨tieS x,⟨x,⟨hx,hk⟩,rfl⟩,h⟩)
   ·exact .inr ⟨x,⟨hx,hk⟩,h.symm⟩
 rw[hnod]
 constructor
 ·rintro⟨x,hx,⟨rfl,q⟩|⟨rfl,q⟩⟩
  ·have hna:=(ZCs (hg x hx)).2.1
   refine⟨⟨x,hx,?_⟩,ZFs hna⟩
   rcases q with q|q|q
   ·exact .inr (.inl ⟨q,.inl rfl⟩)
   ·exact .inr (.inr (.inl ⟨q,.inl rfl⟩))
   ·exact .inr (.inr (.inr ⟨q,rfl⟩))
  ·have hnb:=(ZCs (hg x hx)).2.2.1 (by rcases q with q|q|q <;> rw[q] <;> decide) (by rcases q with q|q|q <;> rw[q] <;> decide)
   refine⟨⟨x,hx,?_⟩,ZFs hnb⟩
   rcases q with q|q|q
   ·exact .inr (.inl ⟨q,.inr rfl⟩)
   ·exact .inr (.inr (.inl ⟨q,.inr rfl⟩))
   ·exact .inl ⟨q,.inr rfl⟩
 ·rintro⟨⟨x,hx,⟨hk,rfl|rfl⟩|⟨hk,rfl|rfl⟩|⟨hk,rfl|rfl⟩|⟨hk,rfl⟩⟩,hh⟩
  ·unfold ZBY at hh
   simp at hh
  ·exact⟨x,hx,.inr ⟨rfl,.inr (.inr hk)⟩⟩
  ·exact⟨x,hx,.inl ⟨rfl,.inl hk⟩⟩
  ·exact⟨x,hx,.inr ⟨rfl,.inl hk⟩⟩
  ·exact⟨x,hx,.inl ⟨rfl,.inr (.inl hk)⟩⟩
  ·exact⟨x,hx,.inr ⟨rfl,.inr (.inl hk)⟩⟩
  ·exact⟨x,hx,.inl ⟨rfl,.inr (.inr hk)⟩⟩
end Go.Dw
namespace Go.Dw
open Go Go.Dx Go.Proofs
set_option maxRecDepth 100000
end Go.Dw
