/- V1: Hall's condition for reels, with no program in sight. -/
import Derived.Test.YtcjmpdpgfmjcgaaGreatDoorMG13
import Derived.Test.YtcjmpdpgfmjcgaaGreatDoorMG10
import Derived.Test.YtcjmpdpgfmjcgaaGreatDoorMG2
namespace Go.Dw
open Go Go.Dx Go.Proofs Go.Mt
theorem mem_natsL {l:List Int}(h0:∀x∈l,0<=x){r:Nat}:r∈natsL l ↔ (r:Int)∈l:=by
 unfold natsL
 rw[List.mem_map]
 constructor
 ·rintro⟨x,hx,rfl⟩
  have:=h0 x hx
  rw[Int.toNat_of_nonneg this];exact hx
 ·intro h;exact⟨r,h,Int.toNat_natCast r⟩
abbrev fitP (t:Task)(l:List Int):Prop:=Fit (adjB t fun _=>false) (natsL l)
def InR (t:Task)(l:List Int):Prop:=∀x∈l,0<=x/\x<t.reels.length
theorem InR.pos {t:Task}{l:List Int}(h:InR t l):∀x∈l,0<=x:=fun x hx=>(h x hx).1
theorem places_nats {t:Task}{l:List Int}(h:InR t l){p:Pl}:(∃k∈l,p∈placesL t k) ↔ ∃r∈natsL l,adjB t (fun _=>false) r p:=by
 constructor
 ·rintro⟨k,hk,hp⟩
  have h0:=(h k hk).1
  exact⟨k.toNat,List.mem_map.2 ⟨k,hk,rfl⟩,by rw[Int.toNat_of_nonneg h0];exact hp,rfl⟩
 ·rintro⟨r,hr,hp,_⟩
  exact⟨r,(mem_natsL h.pos).1 hr,hp⟩
theorem countS_len {t:Task}(hV:Valid t)(l:List Int):countS t l=((cellsL t l t.machines.length).length:Nat):=(cellsL_len hV (Nat.le_refl _)).symm
def remL (l:List Int)(n i:Nat):List Int:=l.take i++(l.drop (i+1)).take (n-i)
open Classical in
noncomputable def tightL (t:Task)(l:List Int)(n k:Nat):List Int:=(List.range k).flatMap fun i=>if fitP t (remL l n i) then [l.getD i 0] else []
end Go.Dw
/- V2: the contract of part: some of a list's numbers. -/
namespace Go.Dw
open Go Go.Dx Go.Proofs
set_option maxRecDepth 100000
end Go.Dw
