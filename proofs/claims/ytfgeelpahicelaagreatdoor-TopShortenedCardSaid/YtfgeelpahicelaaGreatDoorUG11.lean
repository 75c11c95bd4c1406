/- L1: ScreenChecks: its contract, for any task. -/
import Derived.Test.YtfgeelpahicelaaGreatDoorUG2
import Derived.Test.YtfgeelpahicelaaGreatDoorUG9
import Derived.Test.YtfgeelpahicelaaGreatDoorURunA
import Derived.Test.YtfgeelpahicelaaGreatDoorUG10
import Derived.Test.YtfgeelpahicelaaGreatDoorUG4
set_option linter.unusedVariables false
set_option linter.unusedSimpArgs false
namespace Go.Dw
open Go Go.Dx Go.Proofs
set_option maxRecDepth 100000
theorem awake_sv {h:Heap}(hT:TabAt spTab h):Sv Tryz.prog 23 [] h (RetP fun v h'=>v=.bool true/\h'=h):=Sv_orcT Go.Dx.awake hT
end Go.Dw
/- L2: ScreenMays: its contract, for any task and show. -/
namespace Go.Dw
open Go Go.Dx Go.Proofs
set_option maxRecDepth 100000
end Go.Dw
/- L4: ScreenTimes: its contract, for any task and show. -/
namespace Go.Dw
open Go Go.Dx Go.Proofs
set_option maxRecDepth 100000
theorem rows_row {α:Type}{f:α->List Value}{R:Heap->List Value->α->Prop}(hR:∀h row x,R h row x->row=f x){k:Nat}(hk:0<k)(hf:∀x,(f x).length=k){h:Heap}{b o:Nat}{oa:Option Nat}{l:List α}(hl:RowsAt k R h (some ⟨b,o,oa⟩) l)(h0:0<l.length):rowAt h b o (l.length*k)=some (l.flatMap f):=by
 have hlen:(l.flatMap f).length=l.length*k:=by
  clear hl h0
  induction l with
  | nil=>simp
  | cons x l ih=>rw[List.flatMap_cons,List.length_append,ih,hf,List.length_cons,Nat.succ_mul];omega
 rw[<-hlen]
 refine row_of_cells (by rw[hlen];exact Nat.mul_pos h0 hk) fun i hi=>?_
 rw[hlen] at hi
 have hq:i / k<l.length:=Nat.div_lt_of_lt_mul (by rw[Nat.mul_comm];exact hi)
 obtain⟨b',o',oa',e,row,hrow,hr⟩:=hl (i / k) hq
 cases e
 have hrr:=hR _ _ _ hr
 have hm:=Nat.mod_lt i hk
 have hdm:i / k*k+i % k=i:=by rw[Nat.mul_comm];exact Nat.div_add_mod i k
 have hcut:=cut_flat (f:=f) (k:=k) (P:=l) hq fun p _=>hf p
 have hin:i / k*k+k<=l.length*k:=by rw[<-Nat.succ_mul];exact Nat.mul_le_mul_right k hq
 rw[cut_le (by rw[hlen];exact hin)] at hcut
 have hv:nth (f l[i / k]) (i % k)=some (l.flatMap f)[i]:=by
  rw[nth_eq,<-Option.some.inj hcut,List.getElem?_take_of_lt hm,List.getElem?_drop,hdm,List.getElem?_eq_getElem]
 have hc:=cell_of_row (k:=i % k) (hrr ▸ hrow) hv
 rwa [Nat.add_assoc,hdm] at hc
theorem rows_src {P:Program} {α:Type}{f:α->List Value}{R:Heap->List Value->α->Prop}(hR:∀h row x,R h row x->row=f x){k:Nat}(hk:0<k)(hf:∀x,(f x).length=k){h:Heap}{a:Option Addr}{l:List α}{cap:Nat}{el tX:TypeId}{dd:TypeDesc}(hX:P.underlying tX=some dd)(hni:∀k,dd≠.int k)(hl:RowsAt k R h a l)(h0:0<l.length):asrc P el k tX (.slice a l.length cap) h=some (l.length,l.flatMap f):=by
 obtain⟨b,o,oa,rfl,-⟩:=hl 0 h0
 exact asrc_row hX hni (rows_row hR hk hf hl h0)
def venRow (v:ScV):List Value:=[str v.name,i64 v.land,i64 v.proj,i64 v.speeds.lo,i64 v.speeds.hi,i64 v.change,i64 v.spool,i64 v.turn,.bool v.digital]
theorem longV_ok {t:ScT}{s:ScS}(h:¬(longV t s).2≠0):errSc t=0/\shownErr t s=0:=by
 replace h:(longV t s).2=0:=Decidable.not_not.1 h
 unfold longV at h
 split at h
 ·rename_i h1
  split at h
  ·rename_i h2
   exact⟨h1,h2⟩
  ·exact absurd h ‹_›
 ·exact absurd h ‹_›
theorem longV_eq {t:ScT}{s:ScS}(h1:errSc t=0)(h2:shownErr t s=0):longV t s=(longS t s,0):=by unfold longV;rw[if_pos h1,if_pos h2]
end Go.Dw
