/- Z2: rows of cells as the source of an append; parts of rows; rows of the function's own. -/
import Derived.Test.YtcjmpdpgfmjcgaaGreatDoorMG15
namespace Go.Dw
open Go Go.Dx Go.Proofs
variable {P:Program}
def RawAt (k:Nat)(h:Heap)(a:Option Addr)(rs:List (List Value)):Prop:=RowsAt k (fun _ row x=>row=x) h a rs
theorem RawAt.at {k:Nat}{h:Heap}{a:Option Addr}{rs:List (List Value)}(hl:RawAt k h a rs){i:Nat}(hi:i<rs.length):∃b o oa,a=some ⟨b,o,oa⟩/\rowAt h b (o+i*k) k=some rs[i]:=by
 obtain⟨b,o,oa,e,row,h1,rfl⟩:=hl i hi
 exact⟨b,o,oa,e,h1⟩
theorem RawAt.ext {k:Nat}{h h':Heap}{a:Option Addr}{rs:List (List Value)}(hl:RawAt k h a rs)(he:Ext h h'):RawAt k h' a rs:=RowsAt.ext (R:=fun _ row x=>row=x) (fun x _=>x) hl he
theorem cut_len {vs l:List Value}{o n:Nat}(h:cut vs o n=some l):l.length=n:=by
 obtain⟨h1,h2⟩:=cut_eq h
 rw[h2,List.length_take,List.length_drop];omega
theorem rowAt_len {h:Heap}{b o n:Nat}{l:List Value}(hr:rowAt h b o n=some l):l.length=n:=by
 unfold rowAt at hr
 split at hr
 ·exact cut_len hr
 ·rename_i lim ob _
  unfold rdo at hr
  split at hr
  ·split at hr
   ·rename_i l' hc
    have hl:=cut_len hc
    cases hb:l'.all (okv lim)
    ·rw[hb] at hr;cases hr
    ·rw[hb] at hr;cases hr
     rw[List.length_map];exact hl
   ·cases hr
  ·cases hr
 ·cases hr
theorem RawAt.len {k:Nat}{h:Heap}{a:Option Addr}{rs:List (List Value)}(hl:RawAt k h a rs):∀r∈rs,r.length=k:=fun r hr=>by
 obtain⟨i,hi,rfl⟩:=List.getElem_of_mem hr
 obtain⟨b,o,oa,e,h1⟩:=hl.at hi
 exact rowAt_len h1
theorem RawAt.rows {α:Type}{k:Nat}{R:Heap->List Value->α->Prop}{h:Heap}{a:Option Addr}{rs:List (List Value)}{l:List α}(hr:RawAt k h a rs)(hl:rs.length=l.length)(hR:∀i (h1:i<rs.length)(h2:i<l.length),R h rs[i] l[i]):RowsAt k R h a l:=fun i hi=>by
 obtain⟨b,o,oa,e,h1⟩:=hr.at (i:=i) (by omega)
 exact⟨b,o,oa,e,_,h1,hR i (by omega) hi⟩
theorem RawAt.take {k:Nat}{h:Heap}{a:Option Addr}{rs:List (List Value)}(hl:RawAt k h a rs)(n:Nat):RawAt k h a (rs.take n):=fun i hi=>by
 rw[List.length_take] at hi
 obtain⟨b,o,oa,e,h1⟩:=hl.at (i:=i) (by omega)
 exact⟨b,o,oa,e,_,h1,by rw[List.getElem_take]⟩
theorem RawAt.drop {k b o:Nat}{oa oa':Option Nat}{h:Heap}{rs:List (List Value)}(hl:RawAt k h (some ⟨b,o,oa⟩) rs)(n:Nat):RawAt k h (some ⟨b,o+n*k,oa'⟩) (rs.drop n):=fun i hi=>by
 rw[List.length_drop] at hi
 obtain⟨b',o',oa2,e,h1⟩:=hl.at (i:=n+i) (by omega)
 cases e
 refine⟨b,o+n*k,oa',rfl,_,?_,by rw[List.getElem_drop]⟩
 rw[show o+n*k+i*k=o+(n+i)*k by rw[Nat.add_mul];omega]
 exact h1
abbrev catR (rs:List (List Value)):List Value:=rs.flatMap id
theorem catR_len {k:Nat}:∀{rs:List (List Value)},(∀r∈rs,r.length=k)->(catR rs).length=rs.length*k
 | [],_=>by simp
 | r::rs,h=>by
  have ih:=catR_len (rs:=rs) fun x hx=>h x (List.mem_cons_of_mem _ hx)
  have h1:=h r List.mem_cons_self
  unfold catR at ih ⊢
  rw[List.flatMap_cons,List.length_append,ih,List.length_cons,Nat.add_mul,Nat.one_mul]
  show r.length+_=_
  omega
theorem RawAt.row {k b o:Nat}{oa:Option Nat}{h:Heap}{rs:List (List Value)}(hl:RawAt k h (some ⟨b,o,oa⟩) rs)(hk:0<k)(h0:0<rs.length):rowAt h b o (rs.length*k)=some (catR rs):=by
 have hn:=hl.len
 have hc:=catR_len hn
 rw[<-hc]
 refine row_of_cells (by rw[hc];exact Nat.mul_pos h0 hk) fun q hq=>?_
 rw[hc] at hq
 have h1:q / k<rs.length:=(Nat.div_lt_iff_lt_mul hk).2 hq
 have h2:q % k<k:=Nat.mod_lt _ hk
 have h3:q=q / k*k+q % k:=by rw[Nat.mul_comm];exact (Nat.div_add_mod q k).symm
 obtain⟨b',o',oa',e,hr⟩:=hl.at h1
 cases e
 have h4:(rs[q / k])[q % k]?=(catR rs)[q]?:=by
  obtain⟨_,h6⟩:=cut_eq (cut_flat (f:=id) (k:=k) h1 hn)
  have h6:rs[q / k]=((catR rs).drop (q / k*k)).take k:=h6
  rw[h6,List.getElem?_take,if_pos h2,List.getElem?_drop,<-h3]
 have h5:(catR rs)[q]?=some (catR rs)[q]:=List.getElem?_eq_getElem _
 have:=cell_of_row (k:=q % k) hr (by rw[nth_eq,h4,h5])
 rw[show o+q / k*k+q % k=o+q by omega] at this
 exact this
def SrcZ (h:Heap)(a:Option Addr):Prop:=a=none\/(∃b o,a=some ⟨b,o,some 0⟩)\/∃b o oa,a=some ⟨b,o,oa⟩/\rowAt h b o 0=some []
theorem SrcZ.ext {h h':Heap}{a:Option Addr}(hz:SrcZ h a)(he:Ext h h'):SrcZ h' a:=hz.imp id fun hx=>hx.imp id fun ⟨b,o,oa,h1,h2⟩=>⟨b,o,oa,h1,he.row h2⟩
theorem RawAt.src {k:Nat}{h:Heap}{a:Option Addr}{rs:List (List Value)}{cap:Nat}{el tX:TypeId}{dd:TypeDesc}(hl:RawAt k h a rs)(hk:0<k)(hz:rs=[]->SrcZ h a)(hX:P.underlying tX=some dd)(hni:∀k,dd≠.int k):asrc P el k tX (.slice a rs.length cap) h=some (rs.length,catR rs):=by
 cases rs with
 | nil =>
  rcases hz rfl with rfl|⟨b,o,rfl⟩|⟨b,o,oa,rfl,h2⟩
  ·unfold asrc
   rw[hX]
   cases dd <;> first|rfl|exact absurd rfl (hni _)
  ·unfold asrc
   rw[hX]
   cases dd <;> first|rfl|exact absurd rfl (hni _)
  ·exact asrc_row hX hni (by rw[List.length_nil,Nat.zero_mul];exact h2)
 | cons r rs =>
  obtain⟨b,o,oa,rfl,_⟩:=hl.at (i:=0) (by simp)
  exact asrc_row hX hni (hl.row hk (by simp))
structure ReelsP (h:Heap)(ar:Option Addr)(l:List Reel)(cr:Nat):Prop where
 le:l.length<=cr
 plain:∀b o oa,ar=some ⟨b,o,oa⟩->l≠[]->oa=none
 z:l=[]->SrcZ h ar
 nil:ar=none->cr=0
theorem ReelsP.ext {h h':Heap}{ar:Option Addr}{l:List Reel}{cr:Nat}(a:ReelsP h ar l cr)(he:Ext h h'):ReelsP h' ar l cr:=⟨a.le,a.plain,fun e=>(a.z e).ext he,a.nil⟩
def TaskP (h:Heap)(tc:List Value)(t:Task):Prop:=∃am cm ar cr,tc=[i64 t.first,i64 t.days,.slice am t.machines.length cm,.slice ar t.reels.length cr]/\RowsAt 2 MachAt h am t.machines/\RowsAt 5 ReelAt h ar t.reels/\ReelsP h ar t.reels cr
theorem TaskP.at {h:Heap}{tc:List Value}{t:Task}(a:TaskP h tc t):TaskAt h tc t:=by
 obtain⟨am,cm,ar,cr,e,h1,h2,_⟩:=a
 exact⟨am,cm,ar,cr,e,h1,h2⟩
theorem TaskP.ext {h h':Heap}{tc:List Value}{t:Task}(a:TaskP h tc t)(he:Ext h h'):TaskP h' tc t:=by
 obtain⟨am,cm,ar,cr,e,h1,h2,h3⟩:=a
 exact⟨am,cm,ar,cr,e,RowsAt.ext (R:=MachAt) (fun x y=>MachAt.ext x y) h1 he,RowsAt.ext (R:=ReelAt) (fun x y=>ReelAt.ext x y) h2 he,h3.ext he⟩
section
variable {m:Mem}{h:Heap}{d:Option Tmp}{ty:TypeId}{pos:String}{af:Array Edge}{gu:Option (Nat×Bool)}
theorem A_sliceFrom {t el:TypeId}{x i:Operand}{b o len cap sz k:Nat}{ki:IntKind}{y:Int}(ht:P.underlying t=some (.slice el))(hz:tsz P el=some sz)(hx:opk h m x=some (.slice (some ⟨b,o,none⟩) len cap))(hi:opk h m i=some (.int ki y))(hy:y=(k:Int))(hle:k<=len)(hlc:len<=cap) :
  Aop P ⟨d,.slice t x (some i) none none,ty,pos,af,gu⟩ m h (.slice (some ⟨b,if k<cap then o+k*sz else o,none⟩) (len-k) (cap-k)) h :=
 Aop_of fun e hs=>by
  subst hy
  show pSlice P _ h e t x (some i) none none=_
  unfold pSlice
  simp only[opk_opv hs hx,opvo,opk_opv hs hi]
  have:aslice P t (.slice (some ⟨b,o,none⟩) len cap) (some (.int ki (k:Int))) none none=some (.slice (some ⟨b,if k<cap then o+k*sz else o,none⟩) (len-k) (cap-k)):=by
   have hb1:Nat.ble len cap=true:=Nat.ble_eq_true_of_le hlc
   have hb2:Nat.ble k len=true:=Nat.ble_eq_true_of_le hle
   have hb3:Nat.ble cap cap=true:=Nat.ble_eq_true_of_le (Nat.le_refl _)
   unfold aslice
   rw[ht]
   simp only
   show (match sb len cap (some (.int ki (Int.ofNat k))) none none,tsz P el with|some (l,h,m),some n=>some (Value.slice (some ⟨b,@Bool.casesOn (fun _=>Nat) (Nat.beq m l) (Nat.add o (Nat.mul l n)) o,none⟩) (Nat.sub h l) (Nat.sub m l))|_,_=>none)=_
   rw[hz]
   have c1:bnd none cap cap=some cap:=by simp only[bnd,hb3]
   have c2:bnd none len cap=some len:=by simp only[bnd,hb1]
   have c3:bnd (some (.int ki (Int.ofNat k))) 0 len=some k:=by simp only[bnd,natOf,hb2]
   simp only[sb,c1,c2,c3]
   by_cases hk:k<cap
   ·have hb4:Nat.beq cap k=false:=by
     cases hq:Nat.beq cap k with
     | false=>rfl
     | true=>have:=Nat.eq_of_beq_eq_true hq;omega
    rw[hb4,if_pos hk];rfl
   ·have hb4:Nat.beq cap k=true:=by
     have:cap=k:=by omega
     rw[this];exact Nat.beq_refl k
    rw[hb4,if_neg hk];rfl
  simp only[this]
end
end Go.Dw
