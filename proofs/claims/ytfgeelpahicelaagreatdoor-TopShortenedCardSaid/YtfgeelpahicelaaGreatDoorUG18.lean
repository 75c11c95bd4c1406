/- DzF: reading with the weights that a row keeps to. -/
import Derived.SizedLaws
import Derived.Test.YtfgeelpahicelaaGreatDoorUG2
set_option linter.unusedVariables false
set_option linter.unusedSimpArgs false
namespace Go.Dw
open Go Go.Dx
set_option maxRecDepth 100000
section
variable {H:Type}{enc:TypeId×Value->H}{P:Program}{W:World}{t e:TypeId}{cs:List Value}
def RdW (enc:TypeId×Value->H)(P:Program)(W:World)(t:TypeId)(cs:List Value):Prop:=∃n x,DataW.trod enc P W 0 (fun _=>true) true n t cs=some x/\∀k∈x.1.weights P t,k<=reachBytes
theorem RdW.rd (h:RdW enc P W t cs):Rd enc P W t cs:=by
 obtain⟨n,x,h1,_⟩:=h
 exact⟨n,x,h1⟩
theorem rdW_struct {fs:Array Field}(ht:P.underlying t=some (.struct fs))(h:RdW enc P W t cs):∀(i:Nat)(f:Field),fs[i]?=some f->RdW enc P W f.type ((cs.drop f.offset).take (P.cellsOf f.type)):=by
 obtain⟨m,x,hx,hw⟩:=h
 obtain⟨xs,n,_,rfl,_,h2,h3⟩:=DataW.trod_struct ht hx
 intro i f hi
 have:=h3 i f hi
 have hlt:i<xs.length:=by rw[h2];exact (Array.getElem?_eq_some_iff.1 hi).1
 rw[List.getElem?_eq_getElem hlt] at this
 refine⟨n,_,this,fun k hk=>hw k ?_⟩
 show k∈(DataW.agg (xs.map (·.1))).weights P t
 rw[DataW.weights,ht]
 refine DataW.weights_mem_each (j:=i) (t:=f.type) (d:=xs[i].1) ?_ ?_ k hk
 ·rw[List.getElem?_map,Array.getElem?_toList,hi];rfl
 ·rw[List.getElem?_map,List.getElem?_eq_getElem hlt];rfl
theorem weights_all:∀{l:List (DataW H)}{d:DataW H},d∈l->∀k∈d.weights P e,k∈DataW.weightsAll P e l
 | a::l,d,hd,k,hk=>by
  rw[DataW.weightsAll]
  rcases List.mem_cons.1 hd with rfl|g
  ·exact List.mem_append_left _ hk
  ·exact List.mem_append_right _ (weights_all g k hk)
theorem rdW_slice (ht:P.underlying t=some (.slice e))(hz:0<P.cellsOf e)(h:RdW enc P W t cs):∃v a len cap,cs=[v]/\okv W.heap.size v=true/\nz v=.slice a len cap/\len<9223372036854775808/\len*P.bytesOf e<=reachBytes ∧
  ∀i,i<len->∃b o,a=some ⟨b,o,none⟩/\∃row c t fz,W.heap[b]?=some (.cells c t fz)/\cut c.toList (o+i*P.cellsOf e) (P.cellsOf e)=some row/\RdW enc P W e row:=by
 have h5:maxLen=9223372036854775807:=by decide
 obtain⟨m,x,hx,hw⟩:=h
 rcases DataW.trod_slice ht hx with ⟨h1,_⟩|⟨a,len,cap,elems,rest,n,_,h1,hxe,_,hlc,hcm,hel,he,hr,_⟩
 ·exact⟨_,none,0,0,h1,rfl,rfl,by decide,by rw[Nat.zero_mul];exact Nat.zero_le _,fun i hi=>by omega⟩
 ·subst hxe
  have hwe:(DataW.slice (elems.map (·.1)) (rest.map (·.1))).weights P t=((elems.map (·.1)).length+(rest.map (·.1)).length)*P.bytesOf e::(DataW.weightsAll P e (elems.map (·.1))++DataW.weightsAll P e (rest.map (·.1))):=by
   rw[DataW.weights,ht]
  simp only[hwe] at hw
  have hbytes:len*P.bytesOf e<=reachBytes:=by
   have h1:=hw _ List.mem_cons_self
   rw[List.length_map,List.length_map,hel] at h1
   exact Nat.le_trans (Nat.mul_le_mul_right _ (Nat.le_add_right _ _)) h1
  have hread:∀i,i<len->∃row,W.cells? 0 (a.add (i*P.cellsOf e)) (P.cellsOf e)=some row/\RdW enc P W e row:=by
   intro i g
   have hb:=he i g
   have hil:i<elems.length:=by omega
   rw[List.getElem?_eq_getElem hil] at hb
   cases hc:W.cells? 0 (a.add (i*P.cellsOf e)) (P.cellsOf e) with
   | none=>rw[hc] at hb;cases hb
   | some row =>
    rw[hc] at hb
    refine⟨row,rfl,n,_,hb,fun k hk=>hw k (List.mem_cons_of_mem _ (List.mem_append_left _ (weights_all (List.mem_map.2 ⟨_,List.getElem_mem hil,rfl⟩) k hk)))⟩
  by_cases hlen:len=0
  ·subst hlen
   obtain⟨v,a',len',cap',g1,g2,g3,g4,g5⟩:=rd_slice ht hz ⟨m,_,hx⟩
   have hv:v=.slice (some a) 0 cap:=by rw[h1] at g1;exact (List.cons.inj g1).1.symm
   have:len'=0:=by
    rw[hv] at g3
    unfold nz at g3
    split at g3
    ·simp only[Value.slice.injEq] at g3;exact g3.2.1.symm
    ·simp only[Value.slice.injEq] at g3;exact g3.2.1.symm
   subst this
   exact⟨v,a',0,cap',g1,g2,g3,g4,hbytes,fun i hi=>absurd hi (Nat.not_lt_zero _)⟩
  ·obtain⟨row0,hc0,_⟩:=hread 0 (by omega)
   have e0:a.add (0*P.cellsOf e)=a:=by simp[Addr.add]
   rw[e0] at hc0
   obtain⟨hsp,c,t',fz,hb,_⟩:=cells_cut hc0 hz
   obtain⟨b,o,sp⟩:=a
   simp only at hsp hb
   subst hsp
   have hlt:b<W.heap.size:=(Array.getElem?_eq_some_iff.1 hb).1
   have hne:¬(len=0/\cap=0):=fun h=>hlen h.1
   refine⟨_,some ⟨b,o,none⟩,len,cap,h1,?_,?_,by omega,hbytes,fun i hi=>⟨b,o,rfl,?_⟩⟩
   ·have hbl:Nat.blt b W.heap.size=true:=by rw[Nat.blt_eq];exact hlt
    exact okv_sl hbl
   ·unfold nz
    split
    ·rename_i hq;simp only[Value.slice.injEq] at hq;exact absurd ⟨hq.2.1,hq.2.2⟩ hne
    ·rfl
   ·obtain⟨row,hc,hrd⟩:=hread i hi
    obtain⟨_,c1,t1,fz1,hb1,hcut⟩:=cells_cut hc hz
    have hblk:((⟨b,o,none⟩:Addr).add (i*P.cellsOf e)).block=b:=by unfold Addr.add;split <;> rfl
    have hoff:((⟨b,o,none⟩:Addr).add (i*P.cellsOf e)).off=o+i*P.cellsOf e:=by unfold Addr.add;split <;> simp_all
    rw[hblk] at hb1
    rw[hoff] at hcut
    exact⟨row,c1,t1,fz1,hb1,hcut,hrd⟩
end
end Go.Dw
