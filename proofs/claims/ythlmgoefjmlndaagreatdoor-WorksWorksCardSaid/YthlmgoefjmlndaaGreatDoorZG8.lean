/- DzB: arguments: out of the row's reader into the abstract heap in which the world itself is only read; a contract there is one of the row's. -/
import Derived.ChangeArms
import Derived.RowKit3
import Derived.Maps.RangeRun
import Derived.SizedLaws
import Derived.WalkKit
import Derived.ProofKit
import Derived.OpenShut
import Derived.Deep.DeepHandedRow
import Derived.ReadAgain
import Derived.ChangeStays
import Derived.Test.YthlmgoefjmlndaaGreatDoorZG2
set_option linter.unusedVariables false
set_option linter.unusedSimpArgs false
namespace Go.Dw
open Go.Dx
variable {H:Type}{enc:TypeId×Value->H}{P:Program}{W:World}{t e:TypeId}{cs:List Value}
noncomputable abbrev ro (W:World):Heap:=roH W.heap.size W.heap.size W
def Rd (enc:TypeId×Value->H)(P:Program)(W:World)(t:TypeId)(cs:List Value):Prop:=∃n x,DataW.trod enc P W 0 (fun _=>true) true n t cs=some x
theorem ZPh (ht:P.underlying t=some (.int .i64))(h:Rd enc P W t cs):∃n,cs=[i64 n]/\I64 n:=by
 obtain⟨m,x,hx⟩:=h;obtain⟨n,h1,_,h3⟩:=DataW.trod_int ht hx;refine⟨n,h1,?_⟩;simp[Lit.wf] at h3;have h4:IntKind.i64.min = -9223372036854775808:=by decide
 have h5:IntKind.i64.max=9223372036854775807:=by decide
 omega
theorem ZP1 {fs:Array Field}(ht:P.underlying t=some (.struct fs))(h:Rd enc P W t cs):cs.length=P.cellsOf t/\∀(i:Nat)(f:Field),fs[i]?=some f->Rd enc P W f.type ((cs.drop f.offset).take (P.cellsOf f.type)):=by
 obtain⟨m,x,hx⟩:=h;obtain⟨xs,n,_,_,h1,h2,h3⟩:=DataW.trod_struct ht hx;refine⟨h1,fun i f hi=>?_⟩;have:=h3 i f hi;have hlt:i<xs.length:=by rw[h2];exact (Array.getElem?_eq_some_iff.1 hi).1
 rw[List.getElem?_eq_getElem hlt] at this;exact⟨n,_,this⟩
theorem ZRE {α β:Type}{f:α->Option β}:∀{l:List α}{r:List β},l.mapM f=some r->l.length=r.length/\∀(i:Nat) a,l[i]?=some a->f a=r[i]?:=by
 intro l
 induction l with
 | nil=>intro r h;simp at h;subst h;exact⟨rfl,fun i a h=>by simp at h⟩
 | cons x l ih =>
  intro r h;rw[List.mapM_cons] at h
  cases hx:f x with
  | none=>rw[hx] at h;cases h
  | some y =>
   rw[hx] at h
   cases hl:l.mapM f with
   | none=>rw[hl] at h;cases h
   | some ys =>
    rw[hl] at h;cases h;obtain⟨h1,h2⟩:=ih hl;refine⟨by simp[h1],fun i a hi=>?_⟩
    cases i with
    | zero=>simp at hi;subst hi;simpa using hx
    | succ i=>simp at hi ⊢;exact h2 i a hi
theorem ZD0 {x:Addr}{n:Nat}{row:List Value}(h:W.cells? 0 x n=some row)(hn:0<n):x.spot=none/\∃c t fz,W.heap[x.block]?=some (.cells c t fz)/\cut c.toList x.off n=some row:=by
 unfold World.cells? at h;rw[if_pos (Nat.zero_le _)] at h;obtain⟨h1,h2⟩:=ZRE h;have h1':row.length=n:=by simpa using h1.symm
 have key:∀i,i<n->W.cell? (x.add i)=row[i]?:=fun i hi=>h2 i i (by simp[hi]);have k0:=key 0 hn;have e0:x.add 0=x:=by simp[Addr.add]
 rw[e0,List.getElem?_eq_getElem (by omega)] at k0;unfold World.cell? at k0
 cases hb:W.heap[x.block]? with
 | none=>rw[hb] at k0;cases k0
 | some ob =>
  rw[hb] at k0
  cases ob with
  | cells c t fz =>
   simp only at k0;have hsp:x.spot=none:=by
    cases hs:x.spot with
    | none=>rfl
    | some y=>rw[hs] at k0;simp at k0
   refine⟨hsp,c,t,fz,rfl,?_⟩;have hget:∀i,i<n->c.toList[x.off+i]?=row[i]?:=by
    intro i hi;have:=key i hi;rw[<-this];unfold World.cell?;have hblk:(x.add i).block=x.block:=by unfold Addr.add;split <;> rfl
    have hspt:(x.add i).spot=none:=by unfold Addr.add;split <;> simp[hsp]
    have hoff:(x.add i).off=x.off+i:=by unfold Addr.add;split <;> simp_all
    rw[hblk,hb];simp only[hspt,hoff];simp
   have hlt:x.off+n<=c.toList.length:=by
    have:=hget (n-1) (by omega);rw[List.getElem?_eq_getElem (show n-1<row.length by omega)] at this;have:=(List.getElem?_eq_some_iff.1 this).1;omega
   unfold cut;have hb2:Nat.ble (Nat.add x.off n) c.toList.length=true:=Nat.ble_eq_true_of_le hlt;rw[hb2];simp only
   congr 1
   apply List.ext_getElem?;intro i;rw[List.getElem?_take]
   split
   ·rename_i hi
    rw[List.getElem?_drop];exact hget i hi
   ·rename_i hi
    rw[List.getElem?_eq_none (by omega)]
  | _=>cases k0
theorem ZR9 {b o lim len cap:Nat}(h:Nat.blt b lim=true):okv lim (.slice (some ⟨b,o,none⟩) len cap)=true:=by
 cases len <;> cases cap <;> first|rfl|exact h
theorem ZQy (ht:P.underlying t=some (.slice e))(hz:0<P.cellsOf e)(h:Rd enc P W t cs):∃v a len cap,cs=[v]/\okv W.heap.size v=true/\nz v=.slice a len cap/\len<9223372036854775808 ∧
  ∀i,i<len->∃b o,a=some ⟨b,o,none⟩/\∃row c t fz,W.heap[b]?=some (.cells c t fz)/\cut c.toList (o+i*P.cellsOf e) (P.cellsOf e)=some row/\Rd enc P W e row:=by
 have h5:maxLen=9223372036854775807:=by decide
 obtain⟨m,x,hx⟩:=h
 rcases DataW.trod_slice ht hx with ⟨h1,_⟩|⟨a,len,cap,elems,rest,n,_,h1,_,_,hlc,hcm,hel,he,hr,_⟩
 ·exact⟨_,none,0,0,h1,rfl,rfl,by decide,fun i hi=>by omega⟩
 ·have hread:∀i,i<cap->∃row,W.cells? 0 (a.add (i*P.cellsOf e)) (P.cellsOf e)=some row/\Rd enc P W e row:=by
   intro i hi;have:∃y,(W.cells? 0 (a.add (i*P.cellsOf e)) (P.cellsOf e)).bind (DataW.trod enc P W 0 (fun _=>true) true n e)=some y:=by
    rcases Nat.lt_or_ge i len with g|g
    ·have:=he i g
     rw[List.getElem?_eq_getElem (by omega)] at this;exact⟨_,this⟩
    ·obtain⟨hr1,hr2⟩:=hr rfl
     have:=hr2 (i-len) (by omega);rw[List.getElem?_eq_getElem (by omega),show len+(i-len)=i by omega] at this;exact⟨_,this⟩
   obtain⟨y,hy⟩:=this
   cases hc:W.cells? 0 (a.add (i*P.cellsOf e)) (P.cellsOf e) with
   | none=>rw[hc] at hy;cases hy
   | some row=>rw[hc] at hy;exact⟨row,rfl,n,y,hy⟩
  by_cases hcap:cap=0
  ·have hlen:len=0:=by omega
   subst hcap;subst hlen;exact⟨_,some ⟨0,0,some 0⟩,0,0,h1,rfl,rfl,by decide,fun i hi=>by omega⟩
  ·obtain⟨row0,hc0,_⟩:=hread 0 (by omega)
   have e0:a.add (0*P.cellsOf e)=a:=by simp[Addr.add]
   rw[e0] at hc0;obtain⟨hsp,c,t',fz,hb,_⟩:=ZD0 hc0 hz;obtain⟨b,o,sp⟩:=a;simp only at hsp hb;subst hsp;have hlt:b<W.heap.size:=(Array.getElem?_eq_some_iff.1 hb).1;have hne:¬(len=0/\cap=0):=fun h=>hcap h.2;refine⟨_,some ⟨b,o,none⟩,len,cap,h1,?_,?_,by omega,fun i hi=>⟨b,o,rfl,?_⟩⟩
   ·have hbl:Nat.blt b W.heap.size=true:=by rw[Nat.blt_eq];exact hlt
    exact ZR9 hbl
   ·unfold nz
    split
    ·rename_i hq;simp only[Value.slice.injEq] at hq;exact absurd ⟨hq.2.1,hq.2.2⟩ hne
    ·rfl
   ·obtain⟨row,hc,hrd⟩:=hread i (by omega)
    obtain⟨_,c1,t1,fz1,hb1,hcut⟩:=ZD0 hc hz;have hblk:((⟨b,o,none⟩:Addr).add (i*P.cellsOf e)).block=b:=by unfold Addr.add;split <;> rfl
    have hoff:((⟨b,o,none⟩:Addr).add (i*P.cellsOf e)).off=o+i*P.cellsOf e:=by unfold Addr.add;split <;> simp_all
    rw[hblk] at hb1;rw[hoff] at hcut;exact⟨row,c1,t1,fz1,hb1,hcut,hrd⟩
theorem ZP3 (ht:P.underlying t=some (.slice e))(hz:0<P.cellsOf e)(h:Rd enc P W t cs):∃v a len cap,cs=[v]/\nz v=.slice a len cap/\(len=0->a=none\/(∃b o,a=some ⟨b,o,some 0⟩)\/∃b o c t fz,a=some ⟨b,o,none⟩/\W.heap[b]?=some (.cells c t fz)/\o<=c.size):=by
 obtain⟨m,x,hx⟩:=h
 rcases DataW.trod_slice ht hx with ⟨h1,_⟩|⟨a,len,cap,elems,rest,n,_,h1,_,_,hlc,hcm,hel,he,hr,_⟩
 ·exact⟨_,none,0,0,h1,rfl,fun _=>.inl rfl⟩
 ·by_cases hcap:cap=0
  ·have hlen:len=0:=by omega
   subst hcap;subst hlen;exact⟨_,some ⟨0,0,some 0⟩,0,0,h1,rfl,fun _=>.inr (.inl ⟨0,0,rfl⟩)⟩
  ·have hread:∃row,W.cells? 0 a (P.cellsOf e)=some row:=by
    have:∃y,(W.cells? 0 (a.add (0*P.cellsOf e)) (P.cellsOf e)).bind (DataW.trod enc P W 0 (fun _=>true) true n e)=some y:=by
     rcases Nat.lt_or_ge 0 len with g|g
     ·have:=he 0 g
      rw[List.getElem?_eq_getElem (by omega)] at this;exact⟨_,this⟩
     ·obtain⟨hr1,hr2⟩:=hr rfl
      have:=hr2 (0-len) (by omega);rw[List.getElem?_eq_getElem (by omega),show len+(0-len)=0 by omega] at this;exact⟨_,this⟩
    obtain⟨y,hy⟩:=this;have e0:a.add (0*P.cellsOf e)=a:=by simp[Addr.add]
    rw[e0] at hy
    cases hc:W.cells? 0 a (P.cellsOf e) with
    | none=>rw[hc] at hy;cases hy
    | some row=>exact⟨row,rfl⟩
   obtain⟨row0,hc0⟩:=hread;obtain⟨hsp,c,t',fz,hb,hcut⟩:=ZD0 hc0 hz;obtain⟨b,o,sp⟩:=a;simp only at hsp hb hcut;subst hsp;have hne:¬(len=0/\cap=0):=fun h=>hcap h.2;refine⟨_,some ⟨b,o,none⟩,len,cap,h1,?_,fun _=>.inr (.inr ⟨b,o,c,t',fz,rfl,hb,?_⟩)⟩
   ·unfold nz
    split
    ·rename_i hq;simp only[Value.slice.injEq] at hq;exact absurd ⟨hq.2.1,hq.2.2⟩ hne
    ·rfl
   ·have:=(ZDc hcut).1
    have:c.toList.length=c.size:=Array.length_toList;omega
theorem ZSD {b o n:Nat}{row:List Value}{c:Array Value}{t:TypeId}{fz:Nat×Nat}(hb:W.heap[b]?=some (.cells c t fz))(hc:cut c.toList o n=some row)(hok:row.all (okv W.heap.size)=true):ZAw (ro W) b o n=some (row.map nz):=by
 unfold ZAw;rw[ZJB,hb];simp only[Option.map_some];unfold rdo;simp only[hc,hok]
theorem ZSu {α:Type}{R:Nat->α->Prop}{n:Nat}(h:∀i,i<n->∃x,R i x):∃l:List α,l.length=n/\∀i (hi:i<l.length),R i l[i]:=by
 induction n with
 | zero=>exact⟨[],rfl,fun i hi=>by simp at hi⟩
 | succ n ih =>
  obtain⟨l,h1,h2⟩:=ih fun i hi=>h i (by omega);obtain⟨x,hx⟩:=h n (by omega);refine⟨l++[x],by simp[h1],fun i hi=>?_⟩
  rcases Nat.lt_or_ge i l.length with g|g
  ·rw[List.getElem_append_left g];exact h2 i g
  ·have:i=n:=by simp at hi;omega
   subst this;subst h1
   simpa using hx
theorem ZMF {f:FuncId}{args:List Value}{args':Array Value}(hs:Sv P f args (ro W) (RetP fun v h'=>v=.bool true/\Ext (ro W) h'))(hv:VRL (idI W.heap.size) args args'.toList) :
  Calls P f args' W fun e W'=>e=.returned (.bool true)/\Unch W W':=by
 refine (hs.w (idI W.heap.size) W args' (ZTT (Nat.le_refl _) (Nat.le_refl _)) hv).mono ?_;rintro en w' ⟨r,hR,hP⟩
 cases r with
 | ret v h' =>
  obtain⟨rfl,he⟩:=hR;obtain⟨ι',v',rfl,hvv,hr,ha⟩:=hP;cases hvv;exact⟨rfl,ZLD ha hr (Nat.le_refl _) ⟨he.1,he.2.1,he.2.2⟩⟩
 | pan v h'=>exact hR.elim
 | no=>exact hR.elim
theorem ZS9 {v:Value}(h:okv W.heap.size v=true):VR (idI W.heap.size) (nz v) v:=ZKP (fun b hb=>⟨⟨b,0,0⟩,ZMm hb,rfl⟩) h
end Go.Dw
namespace Go.Dw
open Go Go.Dx
variable {P:Program}
theorem ZTG {z:Nat}{t el:TypeId}{b n k:Nat}{sp:Option Nat}{kj:IntKind}(ht:P.underlying t=some (.slice el))(hz:tsz P el=some (z+1))(hsp:sp=none\/sp=some (z+1))(hk:k<=n):∃c',k<=c'/\∀{h:Heap}{m:Mem}{d:Option Tmp}{ty:TypeId}{pos:String}{af:Array Edge}{gu:Option (Nat×Bool)}{x i:Operand},opk h m x=some (.slice (some ⟨b,0,sp⟩) n n)->opk h m i=some (.int kj (k:Int))->Aop P ⟨d,.slice t x none (some i) none,ty,pos,af,gu⟩ m h (.slice (some ⟨b,0,sp⟩) k c') h:=by
 refine⟨n,hk,fun {h m d ty pos af gu x i} hx hi=>?_⟩
 rcases hsp with rfl|rfl
 ·exact ZKz ht hz hx hi rfl hk
 ·refine ZAf fun e hs=>?_
  show ZBV P _ h e t x none (some i) none=_
  unfold ZBV;have c4:sb n n none (some (.int kj (k:Int))) none=some (0,k,n):=ZTl hk;have:ZAu P t (.slice (some ⟨b,0,some (z+1)⟩) n n) none (some (.int kj (k:Int))) none=some (.slice (some ⟨b,0,some (z+1)⟩) k n):=by
   have h1:Nat.blt 0 (z+1)=true:=rfl;have h2:Nat.beq (z+1) (z+1)=true:=Nat.beq_refl _;unfold ZAu;rw[ht];simp only;rw[hz,c4];simp only[h1,h2]
   rfl
  simp only[ZAJ hs hx,opvo,ZAJ hs hi,this]
theorem ZJT {z:Nat}{t el:TypeId}{b n k:Nat}{sp:Option Nat}{kj:IntKind}(ht:P.underlying t=some (.slice el))(hz:tsz P el=some (z+1))(hsp:sp=none\/sp=some (z+1))(hk:k<=n):∃a' c',(k<n->∃o,a'=some ⟨b,o,sp⟩/\o=k*(z+1))/\∀{h:Heap}{m:Mem}{d:Option Tmp}{ty:TypeId}{pos:String}{af:Array Edge}{gu:Option (Nat×Bool)}{x i:Operand},opk h m x=some (.slice (some ⟨b,0,sp⟩) n n)->opk h m i=some (.int kj (k:Int))->Aop P ⟨d,.slice t x (some i) none none,ty,pos,af,gu⟩ m h (.slice a' (n-k) c') h:=by
 have c5:sb n n (some (.int kj (k:Int))) none none=some (k,n,n):=ZTC hk;have hsl:∃a' c',(k<n->∃o,a'=some ⟨b,o,sp⟩/\o=k*(z+1))/\ZAu P t (.slice (some ⟨b,0,sp⟩) n n) (some (.int kj (k:Int))) none none=some (.slice a' (n-k) c'):=by
  rcases hsp with rfl|rfl
  ·refine⟨some ⟨b,match Nat.beq n k with|true=>0|false=>0+k*(z+1),none⟩,n-k,fun hlt=>?_,?_⟩
   ·have hq:Nat.beq n k=false:=by
     cases hq:Nat.beq n k with
     | false=>rfl
     | true=>have:=Nat.eq_of_beq_eq_true hq;omega
    rw[hq];exact⟨_,rfl,Nat.zero_add _⟩
   ·unfold ZAu
    rw[ht];simp only;rw[hz,c5];simp only;cases Nat.beq n k <;> rfl
  ·have hbz:Nat.beq (z+1) (z+1)=true:=Nat.beq_refl _
   have hb0:Nat.blt 0 (z+1)=true:=rfl
   cases k with
   | zero =>
    refine⟨some ⟨b,0,some (z+1)⟩,n,fun _=>⟨0,rfl,(Nat.zero_mul _).symm⟩,?_⟩;unfold ZAu;rw[ht];simp only;rw[hz,c5];simp only[hbz,hb0]
    rfl
   | succ k =>
    rcases Nat.lt_or_ge (k+1) n with h1|h1
    ·refine⟨some ⟨b,0+(k+1)*(z+1),some (z+1)⟩,n-(k+1),fun _=>⟨_,rfl,Nat.zero_add _⟩,?_⟩
     have hbl:Nat.blt (k+1) n=true:=by rw[Nat.blt_eq];exact h1
     unfold ZAu;rw[ht];simp only;rw[hz,c5];simp only[hbz,hb0,hbl]
     rfl
    ·obtain rfl:n=k+1:=by omega
     refine⟨some ⟨b,0,some 0⟩,0,fun h2=>absurd h2 (by omega),?_⟩;have hbl:Nat.blt (k+1) (k+1)=false:=by
      cases hq:Nat.blt (k+1) (k+1) with
      | false=>rfl
      | true=>rw[Nat.blt_eq] at hq;omega
     have hb2:Nat.beq (k+1) (k+1)=true:=Nat.beq_refl _;unfold ZAu;rw[ht];simp only;rw[hz,c5];simp only[hbz,hb0,hbl,hb2,Nat.sub_self]
     rfl
 obtain⟨a',c',h1,h2⟩:=hsl;refine⟨a',c',h1,fun {h m d ty pos af gu x i} hx hi=>ZAf fun e hs=>?_⟩
 show ZBV P _ h e t x (some i) none none=_
 unfold ZBV;simp only[ZAJ hs hx,opvo,ZAJ hs hi,h2]
end Go.Dw
namespace Go.Dw
open Go.Dx
variable {P:Program}
section
variable {fr:Fr}{m:Mem}{ds:List ADef}{h:Heap}{Q:CQ}{ops:Array Oper}{lo:List Oper}{ty:TypeId}{pos:String}{af:Array Edge}{gu:Option (Nat×Bool)}
variable {t:TypeId} {α:Type} [DecidableEq α](K:KeyK P t α)
theorem ZFq {h0:Heap}{I:List It}{c:Call}{tm el:TypeId}{ts:List TypeId}{x y:Operand}{b:Nat}{l:List (α×Value)}{k:α}(hw0:WF h0)(he0:Ext h0 h)(hg:gk ops.toList m gu=some true)(hc:c.callee=.builtin .delete)(hargs:c.args=#[x,y])(hat:c.argTypes.toList=tm::ts)(hu:P.underlying tm=some (.map t el))(hx:opk h m x=some (.map (some b)))(hO:Own h0 h (mapI K b l::I))(hy:opk h m y=some (K.enc k))
  (hk:∀h1,WF h1->Own h0 h1 (mapI K b (delK k l)::I)->Ext h0 h1->Exb (fun c=>c=b) h h1->Wo P fr ops lo m ds h1 Q):Wo P fr ops (⟨none,.call c,ty,pos,af,gu⟩::lo) m ds h Q :=
 ZBY fun hw=>ZPQ K hg hc hargs hat hu hx hO.p1 hy fun h1 o hU hm=>ZBY fun hw1=>hk h1 hw1 (hO.put hw he0.2.1 (Exb.ofUpd hU) hm fun _ hc=>.inl hc) (hO.grows (Exb.ofUpd hU) he0 hw0) (Exb.ofUpd hU)
end
variable {P:Program}
theorem Own.last {h0 h:Heap}{l r:List It}{x:It}(hO:Own h0 h (l++x::r)):Own h0 h (x::(l++r)):=hO.perm List.perm_middle
theorem Own.colls {h0 h:Heap}:∀{rs:List Nat}{I:List It},Own h0 h (rs.map (fun r=>loI r .defd)++I)->ZCj h0 h rs
 | [],_,_=>ZCj.nil _ _
 | r::rs,I,hO=>by
  rw[List.map_cons,List.cons_append] at hO;have ht:=Own.colls (rs:=rs) hO.tail;refine ht.cons hO.p1 (hO.lo _ List.mem_cons_self r rfl) fun hm=>?_;have hap:=(List.pairwise_cons.1 hO.ap).1 (loI r .defd) (List.mem_append_left _ (List.mem_map.2 ⟨r,hm,rfl⟩));exact hap r rfl rfl
theorem Own.del {h0 h:Heap}{rs:List Nat}{I:List It}(hO:Own h0 h (rs.map (fun r=>loI r .defd)++I)):Own h0 (delL h rs) I:=by
 have hI:Own h0 h I:=hO.sub (List.sublist_append_right _ _);have hap:=(List.pairwise_append.1 hO.ap).2.2;refine⟨fun x hx=>x.loc (fun c o hc hg=>?_) (hI.has x hx),hI.lo,hI.ap⟩;rw[ZFM fun hm=>hap (loI c .defd) (List.mem_map.2 ⟨c,hm,rfl⟩) x hx c rfl hc];exact hg
def ZQI (P:Program) {σ β:Type}(g:FuncId)(cap:List Value)(h0:Heap)(X:σ->List It)(L:List β)(enc:β->Value):Prop :=
 ∀(l:Nat) (hL:Heap) (J:List β->Heap->Prop),J [] hL->(∀pre h',J pre h'->Ext h0 h'/\∃s R,Own h0 h' (X s++R))->(∀pre h1 h2,J pre h1->Ext h1 h2->J pre h2) →
  (∀pre x post h',L=pre++x::post->J pre h'->Yd P l [enc x] h' (fun v h''=>v=.bool true/\J (pre++[x]) h''))->Sv P g (.func (.yield l) ⟨[]⟩ ⟨[]⟩::cap) hL (RetP fun _ h'=>J L h')
theorem ZC8 {σ β:Type}{fr:Fr}{m:Mem}{ds:List ADef}{h h0:Heap}{Q:CQ}{f:Operand}{p:Tmp}{asg bd:Code}{g:FuncId}{cap:List Value}{X:σ->List It}{ok:List β->σ->Prop}{L:List β}{enc:β->Value}{q:Tmp}{cs:β->List Value}{el:TypeId}{op:Bool}{s0:σ}
  (hrd:fr.rd=none) (hf:opk h m f=some (.func (.func g) ⟨[]⟩ ⟨cap⟩)) (hb:ZBC P g=true) (hlt:Nat.blt p fr.nt=true)
  (hw0:WF h0) (hE:Ext h0 h) (hO:Own h0 h (X s0)) (hok:ok [] s0)
  (hit:ZQI P g cap h0 X L enc)
  (hasg:∀l x h',Wc P ⟨fr.fn,fr.nt,some l⟩ asg (upd m p (enc x)) [] h' (fun y m1 ds1 h1=>y=.normal/\ds1=[]/\m1=upd (upd m p (enc x)) q (.pointer (some ⟨h'.nx,0,none⟩))/\Ext h' h1/\h1.get h'.nx=some (.cells (cs x) el op)))
  (hbody:∀l bn pre x post s h' R,L=pre++x::post->ok pre s->Own h0 h' (ceI bn (cs x) el op::(X s++R))->Ext h0 h' →
   Wc P ⟨fr.fn,fr.nt,some l⟩ bd (upd (upd m p (enc x)) q (.pointer (some ⟨bn,0,none⟩))) [] h' (fun y _ _ h''=>y=.normal/\∃s',ok (pre++[x]) s'/\Own h0 h'' (X s'++R)/\Ext h0 h''))
  (hQ:∀s h'',ok L s->Own h0 h'' (loI h.nx .defd::X s)->Ext h0 h''->Q .normal m (.coll h.nx::ds) h''):Wc P fr (.rangeFunc f #[p] asg bd) m ds h Q:=by
 refine ZDs fun hw=>ZOs hrd hf hb fun e hs hL hEL hWL hnL hLr hLl=>?_;have hO1:Own h0 hL (loI h.nx .defd::X s0):=hO.new hw hE.2.1 hEL hLr fun c hc=>by rw[show c=h.nx from hc];exact Nat.le_refl _
 have hO2:Own h0 hL (loI (h.nx+1) (.loop .ready none fr.fn fr.nt e #[p] asg bd h.nx)::loI h.nx .defd::X s0):=by
  refine⟨fun x hx=>?_,fun x hx c hc=>?_,List.pairwise_cons.2 ⟨fun z hz c hc hzc=>?_,hO1.ap⟩⟩
  ·rcases List.mem_cons.1 hx with rfl|hx
   ·exact hLl
   ·exact hO1.has x hx
  ·rcases List.mem_cons.1 hx with rfl|hx
   ·rw[show c=h.nx+1 from hc];have:=hE.2.1;omega
   ·exact hO1.lo x hx c hc
  ·rw[show c=h.nx+1 from hc] at hzc
   rcases List.mem_cons.1 hz with rfl|hz
   ·exact absurd (show h.nx+1=h.nx from hzc) (by omega)
   ·obtain⟨o,ho⟩:=z.ex (hO.has z hz) hzc
    have:=hw _ _ ho;omega
 have hE1L:=hE.trans hEL;generalize hrec:AO.loop LoopState.ready none fr.fn fr.nt e #[p] asg bd h.nx=rec at hO2
 let J:List β->Heap->Prop:=fun pre h'=>∃s,ok pre s/\Own h0 h' (X s++[loI (h.nx+1) rec,loI h.nx .defd])/\Ext h0 h'
 have toJ:∀{s h' o},Own h0 h' (loI (h.nx+1) o::loI h.nx .defd::X s)->Own h0 h' (X s++[loI (h.nx+1) o,loI h.nx .defd]):=fun hO=>hO.perm (List.perm_append_comm (l₁:=[_,_]));have ofJ:∀{s h' o},Own h0 h' (X s++[loI (h.nx+1) o,loI h.nx .defd])->Own h0 h' (loI (h.nx+1) o::loI h.nx .defd::X s):=fun hO=>hO.perm (List.perm_append_comm (l₂:=[_,_]));refine (hit (h.nx+1) hL J ⟨s0,hok,toJ hO2,hE1L⟩ (fun pre h' ⟨s,_,h1,h2⟩=>⟨h2,s,_,h1⟩) (fun pre h1 h2 ⟨s,k1,k2,k3⟩ he=>⟨s,k1,k2.ext he,k3.trans he⟩) (fun pre x post h' hsp hJ=>?_)).ret ?_
 ·obtain⟨s,hoks,hOs,hEs⟩:=hJ
  have hl':h'.get (h.nx+1)=some rec:=(ofJ hOs).p1;rw[<-hrec] at hl'
  refine ZQ1 hl' hs rfl (by
   show ([p].all fun p=>Nat.blt p fr.nt)=true
   simp[hlt]) ?_
  refine ZDs fun hw'=>(hasg (h.nx+1) x h').mono ?_;rintro y m1 ds1 h1 ⟨rfl,rfl,rfl,hE1,hg1⟩;have hl1:=hE1.get hl';refine⟨rfl,rfl,_,_,_,_,_,_,_,_,hl1,?_⟩;generalize hAO:AO.loop LoopState.busy none fr.fn fr.nt e #[p] asg bd h.nx=bo;have hU:=Upd.mk' h1 (h.nx+1) bo;have hO3:Own h0 h1 (ceI h'.nx (cs x) el op::(X s++[loI (h.nx+1) rec,loI h.nx .defd])):=hOs.newCe hw' hEs.2.1 hE1 hg1 (Nat.le_refl _);have hO4:Own h0 h1 (loI (h.nx+1) rec::ceI h'.nx (cs x) el op::loI h.nx .defd::X s):=(hO3.perm (List.Perm.cons _ (List.perm_append_comm (l₂:=[_,_])))).up2;obtain⟨hO5,hE5⟩:=hO4.loSet hw0 (hEs.trans hE1) hU;generalize h1.set (h.nx+1) bo=h2 at *
  have hO6:Own h0 h2 (ceI h'.nx (cs x) el op::(X s++[loI (h.nx+1) bo,loI h.nx .defd])):=hO5.up2.perm (List.Perm.cons _ (List.perm_append_comm (l₁:=[_,_])));refine (hbody (h.nx+1) h'.nx pre x post s h2 _ hsp hoks hO6 hE5).mono ?_;rintro y m3 ds3 h3 ⟨rfl,s',hoks',hO7,hE7⟩;have hl3:h3.get (h.nx+1)=some bo:=(ofJ hO7).p1;rw[<-hAO] at hl3;refine⟨none,_,_,_,_,_,_,_,_,_,rfl,hl3,rfl,s',hoks',?_⟩;have hU8:=Upd.mk' h3 (h.nx+1) rec;obtain⟨hO8,hE8⟩:=(ofJ hO7).loSet hw0 hE7 hU8;rw[<-hrec] at hO8 hE8 ⊢;exact⟨toJ hO8,hE8⟩
 ·rintro v h' ⟨s,hoks,hOs,hEs⟩
  have hl':h'.get (h.nx+1)=some rec:=(ofJ hOs).p1;rw[<-hrec] at hl';refine⟨.ready,none,_,_,_,_,_,_,_,hl',by simp,fun _=>?_,fun c hc=>nomatch hc⟩;generalize hAO:AO.loop LoopState.exhausted _ _ _ _ _ _ _ _=bo;obtain⟨k1,k2⟩:=(ofJ hOs).loSet hw0 hEs (Upd.mk' h' (h.nx+1) bo);exact hQ s _ hoks k1.tail k2
end Go.Dw
namespace Go.Dw
open Go Go.Dx
variable {P:Program}
def AopN (P:Program)(o:Oper)(m:Mem)(h:Heap)(R:Value->Heap->Prop):Prop :=
 ∀e,Sat m e->∀(ι:Iota) (w:World) (a:Act),HR ι h w.heap->EnvR ι e a.tmps->∃v h1,R v h1/\OpS P ι h w (execOp a.eval o) v h1
section
variable {fr:Fr}{ops:Array Oper}{o:Oper}{m:Mem}{ds:List ADef}{h:Heap}{l:List Oper}{Q:CQ}
theorem ZTi {d:Nat}{R:Value->Heap->Prop}(hg:gk ops.toList m o.guard=some true)(hnd:∀c',o.op≠.defer c')(hd:o.dst=some d)(hlt:Nat.blt d fr.nt=true)(hA:AopN P o m h R)
  (hk:∀v h1,R v h1->Wo P fr ops l (upd m d v) ds h1 Q):Wo P fr ops (o::l) m ds h Q:=by
 refine⟨?_⟩;intro k hdr e hs ι0 h0 w0 ι w a F hr hfr hF ad0;obtain⟨ho,hd'⟩:=ZMv hdr;rw[List.length_cons,List.range'_succ,wpOpsIn_cons];unfold wpOpIn;simp only[ho];rw[ZBK hfr (ZEl hs hg)];simp only[if_true];obtain⟨v,h1,hR,hO⟩:=hA e hs ι w a hr hfr.env;have hfin:fin VT fr o v e ds h1=.ok .normal (putE VT fr.fn d v e) ds h1:=by simp only[fin,put,hd,hlt]
 refine ZGg hF hnd hr hfr hO hfin ⟨fun _ ι2 _ a2 w2 _ ad hr2 hf2=>?_,fun v hv=>by cases hv⟩;exact (hk v h1 hR).w (k+1) hd' _ (hs.put fr.fn d v) ι0 h0 w0 ι2 w2 a2 F hr2 hf2 (hF.mono ad.sub) (ad0.trans ad)
end
section
variable {m:Mem}{h:Heap}{d:Option Tmp}{ty:TypeId}{pos:String}{af:Array Edge}{gu:Option (Nat×Bool)}
theorem ZNq {t k el:TypeId}{x:Operand}{b clock:Nat}{es:List MapEntry}(hu:P.underlying t=some (.map k el))(hx:opk h m x=some (.map (some b)))(hg:h.get b=some (.map es clock)) :
  Aop P ⟨d,.range t x,ty,pos,af,gu⟩ m h (.pointer (some ⟨h.nx,0,none⟩)) (h.add (.miter (some b) clock #[] clock)):=by
 intro e hsat ι w a hr he;have hsv:=ZAH hr he (ZAJ hsat hx);generalize hz:a.eval x=z at hsv
 cases hsv with
 | @map _ bi hb =>
 obtain⟨es',hw,-⟩:=hr.mapAt hg hb
 let b2:BI:=⟨w.heap.size,0,0⟩
 have hadd:=hr.add (o:=.miter (some b) clock #[] clock) (o':=.mapIter (some bi.blk) clock #[] clock) (bi:=b2) rfl (by
  simp only[OR];exact⟨by trivial,by trivial,by trivial,bi,hr.sub_upd b2 _ _ hb,by trivial⟩)
 refine⟨_,.pointer (some ⟨w.heap.size,0,none⟩),{ w with heap:=w.heap.push (.mapIter (some bi.blk) clock #[] clock) },.inl ?_,?_,hadd.1,hadd.2⟩
 ·have hrun:=run_range_map (P:=P) w t k el bi.blk es' clock hu hw
  simp only[execOp,hz,Sem.run_bind,hrun,Result.andThen_ok,Sem.run_pure]
  rfl
 ·have h1:Dx.upd ι h.nx b2 h.nx=some b2:=Dx.upd_same _ _ _
  exact VR.ptr (o:=0) h1
theorem MER.mem' {ι:Iota}:∀{l l':List MapEntry},MER ι l l'->∀e'∈l',∃e∈l,e'.key=e.key/\VR ι e.val e'.val/\e'.born=e.born
 | _,_,.nil,e',he=>absurd he List.not_mem_nil
 | _,_,.cons h1 h2 h3 h4,e',he=>by
  rcases List.mem_cons.1 he with rfl|he
  ·exact⟨_,List.mem_cons_self,h1,h2,h3⟩
  ·obtain⟨e,g1,g2⟩:=MER.mem' h4 e' he
   exact⟨e,List.mem_cons_of_mem _ g1,g2⟩
theorem MER.mem2 {ι:Iota}:∀{l l':List MapEntry},MER ι l l'->∀e∈l,∃e'∈l',e'.key=e.key/\VR ι e.val e'.val/\e'.born=e.born
 | _,_,.nil,e,he=>absurd he List.not_mem_nil
 | _,_,.cons h1 h2 h3 h4,e,he=>by
  rcases List.mem_cons.1 he with rfl|he
  ·exact⟨_,List.mem_cons_self,h1,h2,h3⟩
  ·obtain⟨e',g1,g2⟩:=MER.mem2 h4 e he
   exact⟨e',List.mem_cons_of_mem _ g1,g2⟩
def ZTn (h:Heap)(r b since:Nat)(seen:Array Nat)(clock:Nat)(es:List MapEntry)(v:Value)(h1:Heap):Prop :=
 (v=.tuple ⟨[.bool false]⟩/\h1=h/\∀e∈es,seen.contains e.born=true) ∨
 ∃e∈es,seen.contains e.born=false/\v=.tuple ⟨[.bool true,e.key,e.val]⟩/\h1=h.set r (.miter (some b) since (seen.push e.born) clock)
theorem ZO3 {x:Operand}{r b since c0 clock:Nat}{seen:Array Nat}{es:List MapEntry}(hx:opk h m x=some (.pointer (some ⟨r,0,none⟩)))(hg:h.get r=some (.miter (some b) since seen c0))(hgb:h.get b=some (.map es clock))
  (hfl:∀e∈es,flat e.key=true) (hold:∀e∈es,e.born<since) (hsc:since<=c0):AopN P ⟨d,.next x false,ty,pos,af,gu⟩ m h (ZTn h r b since seen clock es):=by
 intro e hsat ι w a hr he;have hsv:=ZAH hr he (ZAJ hsat hx);generalize hz:a.eval x=z at hsv
 cases hsv with
 | @ptr _ _ ri hri =>
 obtain⟨o',hwr,hor⟩:=hr.objAt hg hri;obtain⟨bi,hbi,hwr'⟩:∃bi,ι b=some bi/\w.heap[ri.blk]?=some (.mapIter (some bi.blk) since seen c0):=by
  cases o' with
  | mapIter m' s' q' c' =>
   cases m' with
   | none=>simp only[OR] at hor
   | some m' =>
    simp only[OR] at hor;obtain⟨rfl,rfl,rfl,bi,h1,rfl⟩:=hor;exact⟨bi,h1,hwr⟩
  | _=>simp only[OR] at hor
 obtain⟨es',hwb,hME⟩:=hr.mapAt hgb hbi
 have hold':∀y∈es'.toList,y.born<since:=fun y hy=>by
  obtain⟨e1,h1,-,-,h4⟩:=MER.mem' hME y hy;rw[h4];exact hold e1 h1
 rcases run_next_at (P:=P) w ty ri.blk bi.blk since c0 seen es' clock hwr' hwb hold' hsc with ⟨h0,hrun⟩|⟨e',he',w1,hal,hrun⟩
 ·refine⟨_,_,.inl ⟨rfl,rfl,fun e1 h1=>?_⟩,OpS.here (v':=.tuple #[.bool false]) hr ?_ (VR.of_flat ι rfl)⟩
  ·obtain⟨e2,g1,-,-,g4⟩:=MER.mem2 hME e1 h1
   have:=all_seen es' seen h0 e2 g1;rw[<-g4];exact this
  ·simp only[execOp,hz,Sem.run_bind,hrun,Result.andThen_ok,Sem.run_pure]
 ·obtain⟨g1,g2⟩:=mem_left he'
  obtain⟨e1,f1,f2,f3,f4⟩:=MER.mem' hME e' g1
  have hset:=hr.set (w:=w) (o2:=.miter (some b) since (seen.push e1.born) clock) (o2':=.mapIter (some bi.blk) since (seen.push e'.born) clock) hg hri (by
   simp only[OR];exact⟨by trivial,by rw[f4],by trivial,bi,hbi,by trivial⟩)
  refine⟨_,_,.inr ⟨e1,f1,by rw[<-f4];exact g2,rfl,rfl⟩,ι,.tuple #[.bool true,e'.key,e'.val],Go.ChangeMaps.setBlock w1 ri.blk (.mapIter (some bi.blk) since (seen.push e'.born) clock),.inl ?_,?_,?_,?_⟩
  ·simp only[execOp,hz,Sem.run_bind,hrun,Result.andThen_ok,Sem.run_pure]
  ·refine VR.tup (.cons (.bool _) (.cons ?_ (.cons f3 .nil)))
   rw[f2];exact VR.of_flat ι (hfl e1 f1)
  ·have:(Go.ChangeMaps.setBlock w1 ri.blk (.mapIter (some bi.blk) since (seen.push e'.born) clock)).heap=w.heap.setIfInBounds ri.blk (.mapIter (some bi.blk) since (seen.push e'.born) clock):=by
    rcases hal with rfl|rfl <;> rfl
   rw[this];exact hset.1
  ·refine hset.2.alike ?_ ?_ ?_ ?_ ?_
   ·rcases hal with rfl|rfl <;> rfl
   ·rcases hal with rfl|rfl <;> rfl
   ·rcases hal with rfl|rfl <;> rfl
   ·rcases hal with rfl|rfl <;> rfl
   ·rcases hal with rfl|rfl
    ·exact Nat.le_refl _
    ·exact Nat.le_succ _
end
variable {P:Program}
section
variable {m:Mem}{h:Heap}{d:Option Tmp}{ty:TypeId}{pos:String}{af:Array Edge}{gu:Option (Nat×Bool)}
theorem ZM5 {ι:Iota}:∀{l l':List MapEntry},MER ι l l'->l'.map (·.born)=l.map (·.born)
 | _,_,.nil=>rfl
 | _,_,.cons _ _ h3 h4=>by rw[List.map_cons,List.map_cons,h3,ZM5 h4]
theorem ZSE {x:Operand}{r b since clock:Nat}{seen:Array Nat}{es:List MapEntry}{en:MapEntry}(hx:opk h m x=some (.pointer (some ⟨r,0,none⟩)))(hg:h.get r=some (.miter (some b) since (seen.push en.born) clock))(hgb:h.get b=some (.map es clock))(hen:en∈es)
  (hfl:flat en.key=true) (hnd:(es.map MapEntry.born).Nodup):Aop P ⟨d,.entry x,ty,pos,af,gu⟩ m h (.tuple ⟨[en.key,en.val]⟩) h:=by
 intro e hsat ι w a hr he;have hsv:=ZAH hr he (ZAJ hsat hx);generalize hz:a.eval x=z at hsv
 cases hsv with
 | @ptr _ _ ri hri =>
 obtain⟨o',hwr,hor⟩:=hr.objAt hg hri;obtain⟨bi,hbi,hwr'⟩:∃bi,ι b=some bi/\w.heap[ri.blk]?=some (.mapIter (some bi.blk) since (seen.push en.born) clock):=by
  cases o' with
  | mapIter m' s' q' c' =>
   cases m' with
   | none=>simp only[OR] at hor
   | some m' =>
    simp only[OR] at hor;obtain⟨rfl,rfl,rfl,bi,h1,rfl⟩:=hor;exact⟨bi,h1,hwr⟩
  | _=>simp only[OR] at hor
 obtain⟨es',hwb,hME⟩:=hr.mapAt hgb hbi;obtain⟨e',g1,g2,g3,g4⟩:=MER.mem2 hME _ hen;rw[<-g4] at hwr'
 have hrun:=run_entry_at (P:=P) w ri.blk bi.blk since seen es' clock e' hwr' hwb g1 (by
  have:es'.toList.map (·.born)=es.map (·.born):=ZM5 hME
  rw[this];exact hnd)
 refine OpS.here (v':=.tuple #[e'.key,e'.val]) hr ?_ (VR.tup (.cons ?_ (.cons g3 .nil)))
 ·simp only[execOp,hz,Sem.run_bind,hrun,Result.andThen_ok,Sem.run_pure]
 ·rw[g2];exact VR.of_flat ι hfl
end
section maps
variable {t:TypeId} {α:Type} [DecidableEq α](K:KeyK P t α)
theorem KeyK.inj {a b:α}(h:K.enc a=K.enc b):a=b:=by
 have h1:=K.eq a b;have h2:=K.eq b b;rw[h] at h1;rw[h1] at h2
 simpa using h2
def ZGb (h:Heap)(b r:Nat)(l:List (α×Value))(V:List α):Prop :=
 ∃(es:List MapEntry) (clock since:Nat) (seen:Array Nat) (c0:Nat),h.get b=some (.map es clock)/\Ents K es l/\(es.map MapEntry.born).Nodup/\(∀e∈es,e.born<clock)/\h.get r=some (.miter (some b) since seen c0)/\since<=c0/\since<=clock/\(∀e∈es,e.born<since)/\∀e∈es,∀k,e.key=K.enc k->(seen.contains e.born=true ↔ k∈V)
def CurK (h:Heap)(b r:Nat)(k:α)(v:Value):Prop :=
 ∃(es:List MapEntry) (clock since:Nat) (seen:Array Nat) (e:MapEntry),h.get b=some (.map es clock)/\(es.map MapEntry.born).Nodup/\h.get r=some (.miter (some b) since (seen.push e.born) clock)/\e∈es/\e.key=K.enc k/\e.val=v
theorem ZGb.mapB {h:Heap}{b r:Nat}{l:List (α×Value)}{V:List α}(hI:ZGb K h b r l V):MapB K h b l:=by
 obtain⟨es,clock,since,seen,c0,h1,h2,h3,h4,-⟩:=hI;exact⟨es,clock,h1,h2,h3,h4⟩
theorem ZGb.ne {h:Heap}{b r:Nat}{l:List (α×Value)}{V:List α}(hI:ZGb K h b r l V):b≠r:=by
 obtain⟨es,clock,since,seen,c0,h1,h2,h3,h4,h5,-⟩:=hI;rintro rfl;rw[h1] at h5;cases h5
def itI (b r:Nat)(l:List (α×Value))(V:List α):It where
 S:=fun c=>c=b\/c=r
 p:=fun h=>ZGb K h b r l V
 loc:=fun hk hp=>by
  obtain⟨es,clock,since,seen,c0,h1,h2,h3,h4,h5,h6⟩:=hp;exact⟨es,clock,since,seen,c0,hk _ _ (.inl rfl) h1,h2,h3,h4,hk _ _ (.inr rfl) h5,h6⟩
 ex:=fun hp hc=>by
  obtain⟨es,clock,since,seen,c0,h1,h2,h3,h4,h5,h6⟩:=hp
  rcases hc with rfl|rfl
  ·exact⟨_,h1⟩
  ·exact⟨_,h5⟩
theorem ZMp {es:List MapEntry}{l:List (α×Value)}(h:Ents K es l){e:MapEntry}(he:e∈es):∃k,(k,e.val)∈l/\e.key=K.enc k:=by
 unfold Ents at h;have:(e.key,e.val)∈es.map fun e=>(e.key,e.val):=List.mem_map.2 ⟨e,he,rfl⟩;rw[h] at this;obtain⟨p,h1,h2⟩:=List.mem_map.1 this;simp only[Prod.mk.injEq] at h2;exact⟨p.1,by rw[<-h2.2];exact h1,h2.1.symm⟩
theorem ZOU {es:List MapEntry}{l:List (α×Value)}(h:Ents K es l){p:α×Value}(hp:p∈l):∃e∈es,e.key=K.enc p.1/\e.val=p.2:=by
 unfold Ents at h;have:(K.enc p.1,p.2)∈l.map fun p=>(K.enc p.1,p.2):=List.mem_map.2 ⟨p,hp,rfl⟩;rw[<-h] at this;obtain⟨e,h1,h2⟩:=List.mem_map.1 this;simp only[Prod.mk.injEq] at h2;exact⟨e,h1,h2.1,h2.2⟩
theorem ZOP {es:List MapEntry}{l:List (α×Value)}(h:Ents K es l){i:Nat}(hi:i<es.length):∃hl:i<l.length,es[i].key=K.enc l[i].1:=by
 unfold Ents at h;have hlen:es.length=l.length:=by have:=congrArg List.length h;simpa using this
 refine⟨by omega,?_⟩;have h1:(es.map fun e=>(e.key,e.val))[i]?=(l.map fun p=>(K.enc p.1,p.2))[i]?:=by rw[h]
 rw[List.getElem?_map,List.getElem?_map,List.getElem?_eq_getElem hi,List.getElem?_eq_getElem (by omega)] at h1;simp only[Option.map_some,Option.some.injEq,Prod.mk.injEq] at h1;exact h1.1
theorem ZN5 {l:List (α×Value)}(ho:Once l){p:α×Value}(hp:p∈l):lkp p.1 l=some p.2:=by
 induction l with
 | nil=>exact absurd hp List.not_mem_nil
 | cons q l ih =>
  unfold Once at ho;rw[List.map_cons,List.nodup_cons] at ho;unfold lkp
  rcases List.mem_cons.1 hp with rfl|hp
  ·rw[if_pos rfl]
  ·rw[if_neg (fun e=>ho.1 (by rw[<-e];exact List.mem_map.2 ⟨p,hp,rfl⟩))]
   exact ih ho.2 hp
theorem ZNg {l:List (α×Value)}{k:α}{v:Value}(h:lkp k l=some v):(k,v)∈l:=by
 induction l with
 | nil=>cases h
 | cons q l ih =>
  unfold lkp at h
  split at h
  ·rename_i e
   cases h;rw[e];exact List.mem_cons_self
  ·exact List.mem_cons_of_mem _ (ih h)
section
variable {fr:Fr}{m:Mem}{ds:List ADef}{h:Heap}{Q:CQ}{ops:Array Oper}{lo:List Oper}{d:Nat}{ty:TypeId}{pos:String}{af:Array Edge}{gu:Option (Nat×Bool)}
theorem ZCo {h0:Heap}{I:List It}{tm el:TypeId}{x:Operand}{b:Nat}{l:List (α×Value)}(he0:Ext h0 h)(hg:gk ops.toList m gu=some true)(hlt:Nat.blt d fr.nt=true)(hu:P.underlying tm=some (.map t el))(hx:opk h m x=some (.map (some b)))(hO:Own h0 h (mapI K b l::I))
  (hk:∀h1,WF h1->Own h0 h1 (itI K b h.nx l []::I)->Ext h h1->Wo P fr ops lo (upd m d (.pointer (some ⟨h.nx,0,none⟩))) ds h1 Q):Wo P fr ops (⟨some d,.range tm x,ty,pos,af,gu⟩::lo) m ds h Q:=by
 refine ZBY fun hw=>?_;obtain⟨es,clock,h1,h2,h3,h4⟩:=hO.p1;refine ZR6 hg (fun c' e=>by cases e) rfl hlt (ZNq hu hx h1) ?_;have hE:=Ext.add hw (.miter (some b) clock #[] clock);refine hk _ (hw.add _) ?_ hE;have hO1:=hO.new (y:=loI h.nx (.miter (some b) clock #[] clock)) hw he0.2.1 hE Heap.get_add_same fun c hc=>by rw[show c=h.nx from hc];exact Nat.le_refl _
 refine hO1.merge (z:=itI K b h.nx l []) (fun hp hq=>?_) fun c hc=>?_
 ·exact⟨es,clock,clock,#[],clock,hE.get h1,h2,h3,h4,hp,Nat.le_refl _,Nat.le_refl _,h4,fun e _ k _=>by simp⟩
 ·rcases hc with rfl|rfl
  ·exact .inr rfl
  ·exact .inl rfl
theorem ZDJ {h0:Heap}{I:List It}{x:Operand}{b r:Nat}{l:List (α×Value)}{V:List α}(hw0:WF h0)(he0:Ext h0 h)(hg:gk ops.toList m gu=some true)(hlt:Nat.blt d fr.nt=true)(hx:opk h m x=some (.pointer (some ⟨r,0,none⟩)))(hon:Once l)(hO:Own h0 h (itI K b r l V::I))
  (hk0:(∀k v,lkp k l=some v->k∈V)->Wo P fr ops lo (upd m d (.tuple ⟨[.bool false]⟩)) ds h Q)
  (hk1:∀k v h1,lkp k l=some v->k ∉ V->CurK K h1 b r k v->Own h0 h1 (itI K b r l (k::V)::I)->Ext h0 h1->Wo P fr ops lo (upd m d (.tuple ⟨[.bool true,K.enc k,v]⟩)) ds h1 Q):Wo P fr ops (⟨some d,.next x false,ty,pos,af,gu⟩::lo) m ds h Q:=by
 refine ZBY fun hw=>?_;have hp:=hO.p1;have hne:=ZGb.ne K hp;obtain⟨es,clock,since,seen,c0,h1,h2,h3,h4,h5,h6,h69,h7,h8⟩:=hp;refine ZTi hg (fun c' e=>by cases e) rfl hlt (ZO3 hx h5 h1 (fun e he=>by obtain⟨k,-,e1⟩:=ZMp K h2 he;rw[e1];exact K.flat k) h7 h6) ?_;rintro v hh (⟨rfl,rfl,hall⟩|⟨e,he,hns,rfl,rfl⟩)
 ·refine hk0 fun k v hl=>?_
  obtain⟨e,g1,g2,-⟩:=ZOU K h2 (ZNg hl);exact (h8 e g1 k g2).1 (hall e g1)
 ·obtain⟨k,g1,g2⟩:=ZMp K h2 he
  have hl:=ZN5 hon g1;rw[g2];have hU:=Upd.mk' h r (.miter (some b) since (seen.push e.born) clock);have hX:Exb (itI K b r l V).S h (h.set r (.miter (some b) since (seen.push e.born) clock)):=(Exb.ofUpd hU).mono fun c hc=>.inr hc;have gb:=hU.get hne h1;have gr:=hU.at';refine hk1 k e.val _ hl (fun q=>by rw[(h8 e he k g2).2 q] at hns;cases hns) ⟨es,clock,since,seen,e,gb,h3,gr,he,g2,rfl⟩ (hO.put hw he0.2.1 hX ?_ fun c hc=>.inl hc) (hO.grows hX he0 hw0);refine⟨es,clock,since,seen.push e.born,clock,gb,h2,h3,h4,gr,h69,h69,h7,fun e2 he2 k2 hk2=>?_⟩
  ·have hb:(e2.born=e.born) ↔ k2=k:=by
    constructor
    ·intro q
     obtain⟨i,hi,rfl⟩:=List.getElem_of_mem he2;obtain⟨j,hj,rfl⟩:=List.getElem_of_mem he;have hij:i=j:=(List.getElem_inj (h₀:=by simpa using hi) (h₁:=by simpa using hj) h3).1 (by simpa using q);subst hij;exact KeyK.inj K (hk2.symm.trans g2)
    ·rintro rfl
     obtain⟨i,hi,rfl⟩:=List.getElem_of_mem he2;obtain⟨j,hj,rfl⟩:=List.getElem_of_mem he;obtain⟨hil,ei⟩:=ZOP K h2 hi;obtain⟨hjl,ej⟩:=ZOP K h2 hj;have e1:=KeyK.inj K (ei.symm.trans hk2);have e2:=KeyK.inj K (ej.symm.trans g2);have hij:i=j:=(List.getElem_inj (h₀:=by simpa using hil) (h₁:=by simpa using hjl) hon).1 (by simp only[List.getElem_map];rw[e1,e2]);subst hij;rfl
   rw[List.mem_cons,Array.contains_push];rw[<-h8 e2 he2 k2 hk2,<-hb];simp[or_comm]
theorem ZFH {x:Operand}{b r:Nat}{k:α}{v:Value}(hg:gk ops.toList m gu=some true)(hlt:Nat.blt d fr.nt=true)(hx:opk h m x=some (.pointer (some ⟨r,0,none⟩)))(hC:CurK K h b r k v)
  (hk:Wo P fr ops lo (upd m d (.tuple ⟨[K.enc k,v]⟩)) ds h Q):Wo P fr ops (⟨some d,.entry x,ty,pos,af,gu⟩::lo) m ds h Q:=by
 obtain⟨es,clock,since,seen,e,h1,h2,h3,h4,h5,h6⟩:=hC;have hA:=ZSE (P:=P) (d:=some d) (ty:=ty) (pos:=pos) (af:=af) (gu:=gu) hx h3 h1 h4 (by rw[h5];exact K.flat k) h2;rw[h5,h6] at hA;exact ZR6 hg (fun c' e=>by cases e) rfl hlt hA hk
theorem ZLx {tm el:TypeId}{b r:Nat}{l:List (α×Value)}{V:List α}{k:α}{v v0:Value}(hu:P.underlying tm=some (.map t el))(hI:ZGb K h b r l V)(hl:lkp k l=some v0) :
  ∃o,ZB3 P tm (.map (some b)) (K.enc k) v h=some (h.set b o)/\∀h',Upd h b o h'->ZGb K h' b r (setK k v l) V:=by
 have hne:=ZGb.ne K hI;obtain⟨es,clock,since,seen,c0,h1,h2,h3,h4,h5,h6,h69,h7,h8⟩:=hI;unfold ZB3;simp only[hu,K.hks,h1,K.flat,K.ok,h2.fk]
 cases hj:idx k l 0 with
 | none =>
  rcases ZDv k l 0 with ⟨_,g⟩|⟨i,v,g1,_⟩
  ·rw[g] at hl;cases hl
  ·rw[hj] at g1;cases g1
 | some j =>
  obtain⟨v1,s,g1,_⟩:=ZGE K h2 hj;simp only[ZAs,g1,K.same]
  have hm:∀e∈es.set j ⟨K.enc k,v,s⟩,∃e1∈es,e1.key=e.key/\e1.born=e.born:=fun e he=>by
   rcases List.mem_or_eq_of_mem_set he with g|rfl
   ·exact⟨e,g,rfl,rfl⟩
   ·exact⟨_,List.mem_of_getElem? g1,rfl,rfl⟩
  refine⟨_,rfl,fun h' hU=>⟨_,clock,since,seen,c0,hU.at',h2.set K hj,?_,fun e he=>?_,hU.get (Ne.symm hne) h5,h6,h69,fun e he=>?_,fun e he k2 hk2=>?_⟩⟩
  ·rw[ZJo g1];exact h3
  ·obtain⟨e1,q1,q2,q3⟩:=hm e he
   rw[<-q3];exact h4 e1 q1
  ·obtain⟨e1,q1,q2,q3⟩:=hm e he
   rw[<-q3];exact h7 e1 q1
  ·obtain⟨e1,q1,q2,q3⟩:=hm e he
   rw[<-q3];exact h8 e1 q1 k2 (q2.trans hk2)
theorem ZIs {d:Option Tmp}{o1:Oper}{Kk Kp:Value->List ADef->Heap->Prop}{h0:Heap}{I:List It}{tm el:TypeId}{x y z:Operand}{b r:Nat}{l:List (α×Value)}{V:List α}{k:α}{v v0:Value}(ho1:o1=⟨d,.mapUpdate tm x y z,ty,pos,af,gu⟩)(hw0:WF h0)(he0:Ext h0 h)(hg:gk ops.toList m gu=some true)(hu:P.underlying tm=some (.map t el))(hx:opk h m x=some (.map (some b)))(hO:Own h0 h (itI K b r l V::I))(hl:lkp k l=some v0)(hy:opk h m y=some (K.enc k))(hz:opk h m z=some v)
  (hk:∀h1,Own h0 h1 (itI K b r (setK k v l) V::I)->Ext h0 h1->Kk (.tuple ⟨[]⟩) ds h1):W1 P fr ops o1 m ds h Kk Kp:=by
 subst ho1;refine ZN0 fun hw=>?_;obtain⟨o,h1,h2⟩:=ZLx K (v:=v) hu hO.p1 hl;have hU:=Upd.mk' h b o;have hX:Exb (itI K b r l V).S h (h.set b o):=(Exb.ofUpd hU).mono fun c hc=>.inl hc;refine ZDR hg rfl (ZAf fun e hs=>?_) (hk _ (hO.put hw he0.2.1 hX (h2 _ hU) fun c hc=>.inl hc) (hO.grows hX he0 hw0))
 show ZBo P h e tm x y z=_
 unfold ZBo;rw[ZAJ hs hx,ZAJ hs hy,ZAJ hs hz];simp only[h1]
theorem ZCJ {d:Option Tmp}{o1:Oper}{Kk Kp:Value->List ADef->Heap->Prop}{h0:Heap}{I:List It}{tm el:TypeId}{x y z:Operand}{b:Nat}{l:List (α×Value)}{k:α}{v:Value}(ho1:o1=⟨d,.mapUpdate tm x y z,ty,pos,af,gu⟩)(hw0:WF h0)(he0:Ext h0 h)(hg:gk ops.toList m gu=some true)(hu:P.underlying tm=some (.map t el))(hx:opk h m x=some (.map (some b)))(hO:Own h0 h (mapI K b l::I))(hy:opk h m y=some (K.enc k))(hz:opk h m z=some v)
  (hk:∀h1,Own h0 h1 (mapI K b (setK k v l)::I)->Ext h0 h1->Kk (.tuple ⟨[]⟩) ds h1):W1 P fr ops o1 m ds h Kk Kp :=
 ZN0 fun hw=>ZJN K ho1 hg hu hx hO.p1 hy hz fun h1 o hU hm=>hk h1 (hO.put hw he0.2.1 (Exb.ofUpd hU) hm fun _ hc=>.inl hc) (hO.grows (Exb.ofUpd hU) he0 hw0)
theorem ZN1 {h0:Heap}{I:List It}{tm el:TypeId}{x y z:Operand}{b:Nat}{l:List (α×Value)}{k:α}{v:Value}(hw0:WF h0)(he0:Ext h0 h)(hg:gk ops.toList m gu=some true)(hu:P.underlying tm=some (.map t el))(hx:opk h m x=some (.map (some b)))(hO:Own h0 h (mapI K b l::I))(hy:opk h m y=some (K.enc k))(hz:opk h m z=some v)
  (hk:∀h1,WF h1->Own h0 h1 (mapI K b (setK k v l)::I)->Ext h0 h1->Wo P fr ops lo m ds h1 Q):Wo P fr ops (⟨none,.insert tm x y z,ty,pos,af,gu⟩::lo) m ds h Q:=by
 refine ZBY fun hw=>?_;obtain⟨o,h1,h2⟩:=ZEo K (v:=v) (k:=k) hu hO.p1;have hU:=Upd.mk' h b o;refine ZGp (v:=.tuple ⟨[]⟩) hg rfl rfl (ZAf fun e hs=>?_) (ZBY fun hw1=>hk _ hw1 (hO.put hw he0.2.1 (Exb.ofUpd hU) (h2 _ (Heap.get_set_self _ _ _)) fun _ hc=>.inl hc) (hO.grows (Exb.ofUpd hU) he0 hw0))
 show ZBo P h e tm x y z=_
 unfold ZBo;rw[ZAJ hs hx,ZAJ hs hy,ZAJ hs hz];simp only[h1]
end
end maps
variable {P:Program}{t:TypeId} {α β:Type} [DecidableEq α](K:KeyK P t α)(enc:β->List Value)(el:TypeId)(sz:Nat)
def kvG (G:List (α×Value×List β)):List (α×Value):=G.map fun g=>(g.1,g.2.1)
def slG (h0:Heap)(G:List (α×Value×List β)):List It:=G.map fun g=>slI h0 g.2.1 el sz (g.2.2.flatMap enc) g.2.2.length
def ZBR (k:α):List (α×Value×List β)->Option (Value×List β)
 | []=>none
 | g::G=>if k=g.1 then some g.2 else ZBR k G
def rawG (k:α)(G:List (α×Value×List β)):List β:=((ZBR k G).map Prod.snd).getD []
def setG (k:α)(v:Value)(l:List β):List (α×Value×List β)->List (α×Value×List β)
 | []=>[(k,v,l)]
 | g::G=>if k=g.1 then (k,v,l)::G else g::setG k v l G
theorem ZCH (k:α)(v:Value)(l:List β):∀G:List (α×Value×List β),kvG (setG k v l G)=setK k v (kvG G)
 | []=>rfl
 | g::G=>by
  unfold setG
  show _=setK k v ((g.1,g.2.1)::kvG G)
  unfold setK
  by_cases h:k=g.1
  ·simp only[h,if_true];rfl
  ·simp only[h,if_false]
   show (g.1,g.2.1)::kvG (setG k v l G)=_
   rw[ZCH k v l G]
theorem ZDb (k:α):∀G:List (α×Value×List β),lkp k (kvG G)=(ZBR k G).map Prod.fst
 | []=>rfl
 | g::G=>by
  show lkp k ((g.1,g.2.1)::kvG G)=_
  unfold lkp ZBR
  by_cases h:k=g.1
  ·simp[h]
  ·simp only[h,if_false];exact ZDb k G
theorem ZDO (k k':α)(v:Value)(l:List β):∀G:List (α×Value×List β),ZBR k' (setG k v l G)=if k'=k then some (v,l) else ZBR k' G
 | []=>by simp[setG,ZBR]
 | g::G=>by
  unfold setG
  by_cases h:k=g.1
  ·simp only[h,if_true,ZBR]
   by_cases h2:k'=g.1 <;> simp[h2]
  ·simp only[h,if_false,ZBR,ZDO k k' v l G]
   by_cases h2:k'=g.1
   ·rw[if_pos h2,if_neg (fun e=>h (e.symm.trans h2)),if_pos h2]
   ·rw[if_neg h2,if_neg h2]
theorem ZFf (k k':α)(v:Value)(l:List β)(G:List (α×Value×List β)):rawG k' (setG k v l G)=if k'=k then l else rawG k' G:=by
 unfold rawG;rw[ZDO]
 split <;> rfl
theorem ZE1 (h0:Heap)(k:α)(G:List (α×Value×List β)):∃R,(∀h A,Own h0 h (A++slG enc el sz h0 G)->Own h0 h (slI h0 ((lkp k (kvG G)).getD (.slice none 0 0)) el sz ((rawG k G).flatMap enc) (rawG k G).length::(A++R))) ∧
  (∀h A v l,Own h0 h (slI h0 v el sz (l.flatMap enc) l.length::(A++R))->Own h0 h (A++slG enc el sz h0 (setG k v l G))):=by
 cases hl:ZBR k G with
 | none =>
  have hset:∀v l,setG k v l G=G++[(k,v,l)]:=fun v l=>by
   induction G with
   | nil=>rfl
   | cons g G ih =>
    unfold ZBR at hl
    split at hl
    ·cases hl
    ·rename_i h
     unfold setG;rw[if_neg h,ih hl];rfl
  refine⟨slG enc el sz h0 G,fun h A hO=>?_,fun h A v l hO=>?_⟩
  ·have e1:(lkp k (kvG G)).getD (.slice none 0 0)=.slice none 0 0:=by rw[ZDb,hl];rfl
   have e2:rawG k G=[]:=by unfold rawG;rw[hl];rfl
   rw[e1,e2];exact hO.nilSl el sz
  ·rw[hset]
   have e:slG enc el sz h0 (G++[(k,v,l)])=slG enc el sz h0 G++[slI h0 v el sz (l.flatMap enc) l.length]:=by unfold slG;rw[List.map_append];rfl
   rw[e,<-List.append_assoc];exact hO.perm (List.perm_append_comm (l₁:=[_]))
 | some p =>
  obtain⟨v0,l0⟩:=p;have hsp:∃A B,G=A++(k,v0,l0)::B/\∀v l,setG k v l G=A++(k,v,l)::B:=by
   induction G with
   | nil=>cases hl
   | cons g G ih =>
    unfold ZBR at hl
    split at hl
    ·rename_i h
     obtain⟨g1,g2⟩:=g;cases hl;simp only at h;subst h;exact⟨[],G,rfl,fun v l=>by unfold setG;simp⟩
    ·rename_i h
     obtain⟨A,B,e1,e2⟩:=ih hl;refine⟨g::A,B,by rw[e1];rfl,fun v l=>?_⟩;unfold setG;rw[if_neg h,e2];rfl
  obtain⟨A0,B0,e1,e2⟩:=hsp;have e3:(lkp k (kvG G)).getD (.slice none 0 0)=v0:=by rw[ZDb,hl];rfl
  have e4:rawG k G=l0:=by unfold rawG;rw[hl];rfl
  have es:∀v l,slG enc el sz h0 (A0++(k,v,l)::B0)=slG enc el sz h0 A0++slI h0 v el sz (l.flatMap enc) l.length::slG enc el sz h0 B0:=fun v l=>by
   unfold slG;rw[List.map_append,List.map_cons]
  refine⟨slG enc el sz h0 A0++slG enc el sz h0 B0,fun h A hO=>?_,fun h A v l hO=>?_⟩
  ·rw[e3,e4]
   rw[e1,es,<-List.append_assoc] at hO;have:=hO.perm List.perm_middle;rw[List.append_assoc] at this;exact this
  ·rw[e2,es,<-List.append_assoc]
   rw[<-List.append_assoc] at hO;exact hO.perm List.perm_middle.symm
theorem ZL9 {h0:Heap}{k:α}{v:Value}{l:List β}:∀{G:List (α×Value×List β)},ZBR k G=some (v,l)->slI h0 v el sz (l.flatMap enc) l.length∈slG enc el sz h0 G
 | [],h=>by cases h
 | g::G,h=>by
  unfold ZBR at h
  split at h
  ·obtain⟨g1,g2⟩:=g
   cases h;exact List.mem_cons_self
  ·exact List.mem_cons_of_mem _ (ZL9 h)
variable {P:Program}{m:Mem}{h:Heap}{d:Option Tmp}{ty:TypeId}{pos:String}{af:Array Edge}{gu:Option (Nat×Bool)}
def minB (a b:List UInt8):List UInt8:=if b<a then b else a
def maxB (a b:List UInt8):List UInt8:=if b<a then a else b
theorem ZOr (w:World)(a b:List UInt8):(Op.stringOp .leq ⟨⟨a⟩⟩ ⟨⟨b⟩⟩).run P w=.ok (.bool (decide (¬b<a))) w:=by
 have e:(decide (a<b) || a == b)=decide (¬b<a):=by rw[decide_not,<-ZHe];congr 1;rw[Bool.eq_iff_iff];simp
 simp[go_sem,Op.stringOp,Go.Proofs.bytesLess_eq,e]
theorem ZOn (w:World)(a b:List UInt8):(Op.stringOp .geq ⟨⟨a⟩⟩ ⟨⟨b⟩⟩).run P w=.ok (.bool (decide (¬a<b))) w:=by
 have e:(decide (b<a) || a == b)=decide (¬a<b):=by
  rw[decide_not,<-ZHe];congr 1;rw[Bool.eq_iff_iff];simp only[beq_iff_eq,decide_eq_true_eq];exact eq_comm
 simp[go_sem,Op.stringOp,Go.Proofs.bytesLess_eq,e]
 by_cases q:a<b
 ·simp[q,List.not_le.2 q]
 ·simp[q,List.not_lt.1 q]
theorem ZQr {x y:Operand}{ts:Array TypeId}{a b:List UInt8}(hx:opk h m x=some (str a))(hy:opk h m y=some (str b)):Aop P ⟨d,.call ⟨.builtin .min,#[x,y],ts⟩,ty,pos,af,gu⟩ m h (str (minB a b)) h :=
 ZEd hx hy rfl rfl rfl fun ev w h1 h2=>by
  have hr:(Builtin.min_ ts ty #[str a,str b]).run P w=.ok (str (minB a b)) w:=by
   have h3:=ZOr (P:=P) w a b;simp only[Builtin.min_,Builtin.min2,str,List.foldlM_cons,List.foldlM_nil,Sem.run_bind,h3,Result.andThen_ok,asBool,Sem.run_pure];unfold minB
   by_cases q:b<a <;> simp[q]
  simp only[execOp,resolve,Sem.run_bind,Sem.run_pure,Result.andThen_ok,invoke,builtin];simp only[List.map_toArray,List.map_cons,List.map_nil,h1,h2,hr,Sem.run_bind,Result.andThen_ok,Sem.run_pure]
theorem ZRQ {x y:Operand}{ts:Array TypeId}{a b:List UInt8}(hx:opk h m x=some (str a))(hy:opk h m y=some (str b)):Aop P ⟨d,.call ⟨.builtin .max,#[x,y],ts⟩,ty,pos,af,gu⟩ m h (str (maxB a b)) h :=
 ZEd hx hy rfl rfl rfl fun ev w h1 h2=>by
  have hr:(Builtin.max_ ts ty #[str a,str b]).run P w=.ok (str (maxB a b)) w:=by
   have h3:=ZOn (P:=P) w a b;simp only[Builtin.max_,Builtin.max2,str,List.foldlM_cons,List.foldlM_nil,Sem.run_bind,h3,Result.andThen_ok,asBool,Sem.run_pure];unfold maxB
   by_cases q:a<b
   ·have:¬b<a:=fun q2=>List.lt_irrefl _ (List.lt_trans q q2)
    simp[q,this]
   ·by_cases q2:b<a
    ·simp[q,q2]
    ·have:a=b:=List.le_antisymm (List.not_lt.1 q2) (List.not_lt.1 q)
     simp[q,this]
  simp only[execOp,resolve,Sem.run_bind,Sem.run_pure,Result.andThen_ok,invoke,builtin];simp only[List.map_toArray,List.map_cons,List.map_nil,h1,h2,hr,Sem.run_bind,Result.andThen_ok,Sem.run_pure]
variable {P:Program}
theorem ZCY {z:Nat}{h:Heap}{el tX:TypeId}{dd:TypeDesc}{b o n cap:Nat}{sp:Option Nat}{vs:List Value}{e:TypeId}{op:Bool}(hX:P.underlying tX=some dd)(hni:∀k,dd≠.int k)(hg:h.get b=some (.cells vs e op))(hle:o+n*(z+1)<=vs.length)(hsp:sp=some 0->n≠0):asrc P el (z+1) tX (.slice (some ⟨b,o,sp⟩) n cap) h=some (n,(vs.drop o).take (n*(z+1))):=by
 have hc:cut vs o (Nat.mul n (z+1))=some ((vs.drop o).take (n*(z+1))):=ZCc hle;unfold asrc;rw[hX]
 cases dd with
 | int k=>exact absurd rfl (hni k)
 | _ =>
  cases n with
  | zero =>
   cases sp with
   | none=>simp only[hg,hc]
   | some z =>
    cases z with
    | zero=>exact absurd rfl (hsp rfl)
    | succ z=>simp only[hg,hc]
  | succ n=>simp only[hg,hc]
section
variable {h0 h:Heap}{v:Value}{z:Nat}{el t tX:TypeId}{cs:List Value}{n k:Nat}{dd:TypeDesc}
theorem ZGw (ho:ZAA h0 h v el (z+1) cs n)(hn:0<n)(ht:P.underlying t=some (.slice el))(hz:tsz P el=some (z+1))(hX:P.underlying tX=some dd)(hni:∀k,dd≠.int k)(hk:k<=n){kj:IntKind}:∃v',ZAu P t v none (some (.int kj (k:Int))) none=some v'/\∀h1 h0',ZAA h0' h1 v el (z+1) cs n->asrc P el (z+1) tX v' h1=some (k,cs.take (k*(z+1))):=by
 rcases ho with ⟨_,_,rfl⟩|⟨b,sp,op,rfl,h2,h3,h4,hsp⟩
 ·omega
 have hb:Nat.ble k n=true:=Nat.ble_eq_true_of_le hk;have hb0:Nat.ble 0 k=true:=Nat.ble_eq_true_of_le (Nat.zero_le _);have hb1:Nat.ble n n=true:=Nat.ble_eq_true_of_le (Nat.le_refl _);have c1:bnd none n n=some n:=by simp only[bnd,hb1]
 have c2:bnd (some (.int kj (Int.ofNat k))) n n=some k:=by simp only[bnd,ZCh,hb]
 have c3:bnd none 0 k=some 0:=by simp only[bnd,hb0]
 have c4:sb n n none (some (.int kj (Int.ofNat k))) none=some (0,k,n):=by simp only[sb,c1,c2,c3]
 have hq:Nat.beq n 0=false:=by cases n with|zero=>omega|succ n=>rfl
 have hle:0+k*(z+1)<=cs.length:=by rw[h3,Nat.zero_add];exact Nat.mul_le_mul_right _ hk
 rcases hsp with rfl|rfl
 ·refine⟨.slice (some ⟨b,0,none⟩) k n,?_,?_⟩
  ·unfold ZAu
   rw[ht];simp only
   show (match sb n n none (some (.int kj (Int.ofNat k))) none,tsz P el with|some (l,h,m),some n=>some (Value.slice (some ⟨b,@Bool.casesOn (fun _=>Nat) (Nat.beq m l) (Nat.add 0 (Nat.mul l n)) 0,none⟩) (Nat.sub h l) (Nat.sub m l))|_,_=>none)=_
   rw[hz,c4];simp only[hq]
   show some (Value.slice (some ⟨b,0+0*(z+1),none⟩) (k-0) (n-0))=_
   rw[Nat.zero_mul]
   rfl
  ·intro h1 h0' hF1
   obtain⟨op2,h2⟩:∃op,h1.get b=some (.cells cs el op):=(hF1.at3' rfl).1;have:=ZCY (cap:=n) (sp:=none) (P:=P) (el:=el) hX hni h2 hle (fun x=>nomatch x);rw[this];simp
 ·refine⟨.slice (some ⟨b,0,some (z+1)⟩) k n,?_,?_⟩
  ·unfold ZAu
   rw[ht];simp only
   show (match sb n n none (some (.int kj (Int.ofNat k))) none,tsz P el with|some (l,h,m),some n=>_|_,_=>none)=_
   rw[hz,c4];have hbz:Nat.beq (z+1) (z+1)=true:=Nat.beq_refl _;simp only[hbz]
   rfl
  ·intro h1 h0' hF1
   obtain⟨op2,h2⟩:∃op,h1.get b=some (.cells cs el op):=(hF1.at3' rfl).1;have:=ZCY (cap:=n) (sp:=some (z+1)) (P:=P) (el:=el) hX hni h2 hle (fun x=>by cases x);rw[this];simp
theorem ZF4 (ho:ZAA h0 h v el (z+1) cs n)(hn:0<n)(ht:P.underlying t=some (.slice el))(hz:tsz P el=some (z+1))(hX:P.underlying tX=some dd)(hni:∀k,dd≠.int k)(hk:k<=n){kj:IntKind}:∃v',ZAu P t v (some (.int kj (k:Int))) none none=some v'/\∀h1 h0',ZAA h0' h1 v el (z+1) cs n->asrc P el (z+1) tX v' h1=some (n-k,cs.drop (k*(z+1))):=by
 rcases ho with ⟨_,_,rfl⟩|⟨b,sp,op,rfl,h2,h3,h4,hsp⟩
 ·omega
 have hb:Nat.ble k n=true:=Nat.ble_eq_true_of_le hk;have hb1:Nat.ble n n=true:=Nat.ble_eq_true_of_le (Nat.le_refl _);have c1:bnd none n n=some n:=by simp only[bnd,hb1]
 have c3:bnd (some (.int kj (Int.ofNat k))) 0 n=some k:=by simp only[bnd,ZCh,hb]
 have c4:sb n n (some (.int kj (Int.ofNat k))) none none=some (k,n,n):=by simp only[sb,c1,c3]
 have hm1:n*(z+1)-k*(z+1)=(n-k)*(z+1):=(Nat.sub_mul _ _ _).symm;have hm2:k*(z+1)<=n*(z+1):=Nat.mul_le_mul_right _ hk
 have htk:∀o,o=k*(z+1)->(cs.drop o).take ((n-k)*(z+1))=cs.drop (k*(z+1)):=fun o ho=>by
  subst ho;exact List.take_of_length_le (by rw[List.length_drop];omega)
 rcases Nat.lt_or_ge k n with hlt|hge
 ·have hq:Nat.beq n k=false:=by
   cases hq:Nat.beq n k with
   | false=>rfl
   | true=>have:=Nat.eq_of_beq_eq_true hq;omega
  have hbl:Nat.blt k n=true:=by rw[Nat.blt_eq];exact hlt
  rcases hsp with rfl|rfl
  ·refine⟨.slice (some ⟨b,0+k*(z+1),none⟩) (n-k) (n-k),?_,?_⟩
   ·unfold ZAu
    rw[ht];simp only
    show (match sb n n (some (.int kj (Int.ofNat k))) none none,tsz P el with|some (l,h,m),some n=>some (Value.slice (some ⟨b,@Bool.casesOn (fun _=>Nat) (Nat.beq m l) (Nat.add 0 (Nat.mul l n)) 0,none⟩) (Nat.sub h l) (Nat.sub m l))|_,_=>none)=_
    rw[hz,c4];simp only[hq]
    rfl
   ·intro h1 h0' hF1
    obtain⟨op2,h2⟩:∃op,h1.get b=some (.cells cs el op):=(hF1.at3' rfl).1;have:=ZCY (n:=n-k) (o:=0+k*(z+1)) (cap:=n-k) (sp:=none) (P:=P) (el:=el) hX hni h2 (by rw[h3];exact Nat.le_of_eq (by rw[Nat.zero_add,<-hm1,Nat.add_sub_cancel' hm2])) (fun x=>nomatch x);rw[this,htk _ (by omega)]
  ·refine⟨.slice (some ⟨b,match Nat.beq k 0 with|true=>0|false=>0+k*(z+1),some (z+1)⟩) (n-k) (n-k),?_,?_⟩
   ·unfold ZAu
    rw[ht];simp only
    show (match sb n n (some (.int kj (Int.ofNat k))) none none,tsz P el with|some (l,h,m),some n=>_|_,_=>none)=_
    rw[hz,c4];have hbz:Nat.beq (z+1) (z+1)=true:=Nat.beq_refl _
    cases k with
    | zero =>
     simp only[hbz]
     rfl
    | succ k =>
     simp only[hbl,hbz]
     rfl
   ·intro h1 h0' hF1
    obtain⟨op2,h2⟩:∃op,h1.get b=some (.cells cs el op):=(hF1.at3' rfl).1
    have:=ZCY (n:=n-k) (o:=match Nat.beq k 0 with|true=>0|false=>0+k*(z+1)) (cap:=n-k) (sp:=some (z+1)) (P:=P) (el:=el) hX hni h2 (by rw[h3];cases k with|zero=>show 0+(n-0)*(z+1)<=_;rw[Nat.sub_zero];omega|succ k=>show 0+(k+1)*(z+1)+(n-(k+1))*(z+1)<=_;omega) (fun x=>by cases x)
    rw[this,htk _ (by cases k with|zero=>show 0=0*(z+1);rw[Nat.zero_mul]|succ k=>show 0+(k+1)*(z+1)=_;omega)]
 ·have hkn:k=n:=by omega
  subst hkn;have hq:Nat.beq k k=true:=Nat.beq_refl k;have hbl:Nat.blt k k=false:=by
   cases hq:Nat.blt k k with
   | false=>rfl
   | true=>rw[Nat.blt_eq] at hq;omega
  rcases hsp with rfl|rfl
  ·refine⟨.slice (some ⟨b,0,none⟩) (k-k) (k-k),?_,?_⟩
   ·unfold ZAu
    rw[ht];simp only
    show (match sb k k (some (.int kj (Int.ofNat k))) none none,tsz P el with|some (l,h,m),some n=>some (Value.slice (some ⟨b,@Bool.casesOn (fun _=>Nat) (Nat.beq m l) (Nat.add 0 (Nat.mul l n)) 0,none⟩) (Nat.sub h l) (Nat.sub m l))|_,_=>none)=_
    rw[hz,c4];simp only[hq]
    rfl
   ·intro h1 h0' hF1
    obtain⟨op2,h2⟩:∃op,h1.get b=some (.cells cs el op):=(hF1.at3' rfl).1;have:=ZCY (z:=z) (n:=k-k) (o:=0) (cap:=k-k) (sp:=none) (P:=P) (el:=el) hX hni h2 (by rw[Nat.sub_self];omega) (fun x=>nomatch x);rw[this];have:cs.drop (k*(z+1))=[]:=List.drop_of_length_le (by omega);rw[this];simp
  ·refine⟨.slice (some ⟨b,0,some 0⟩) 0 0,?_,?_⟩
   ·unfold ZAu
    rw[ht];simp only
    show (match sb k k (some (.int kj (Int.ofNat k))) none none,tsz P el with|some (l,h,m),some n=>_|_,_=>none)=_
    rw[hz,c4]
    cases k with
    | zero=>omega
    | succ k =>
     have hbz:Nat.beq (z+1) (z+1)=true:=Nat.beq_refl _;simp only[hbl,hq,hbz]
     rfl
   ·intro h1 h0' hF1
    unfold asrc;rw[hX];have:cs.drop (k*(z+1))=[]:=List.drop_of_length_le (by omega);rw[this,Nat.sub_self];cases dd <;> first|rfl|exact absurd rfl (hni _)
end
section
variable {h0 h:Heap}{v:Value}{z:Nat}{el t tX:TypeId}{cs:List Value}{n k:Nat}{dd:TypeDesc}{ki:IntKind}
theorem ZNW (ho:ZAA h0 h v el (z+1) cs n)(hn:0<n)(ht:P.underlying t=some (.slice el))(hz:tsz P el=some (z+1))(hX:P.underlying tX=some dd)(hni:∀k,dd≠.int k)(hk:k<=n):∃v',(∀h1 h0',ZAA h0' h1 v el (z+1) cs n->asrc P el (z+1) tX v' h1=some (k,cs.take (k*(z+1))))/\∀{h':Heap}{m:Mem}{d:Option Tmp}{ty:TypeId}{pos:String}{af:Array Edge}{gu:Option (Nat×Bool)}{x i:Operand},opk h' m x=some v->opk h' m i=some (.int ki (k:Int))->Aop P ⟨d,.slice t x none (some i) none,ty,pos,af,gu⟩ m h' v' h':=by
 obtain⟨v',h1,h2⟩:=ZGw (kj:=ki) ho hn ht hz hX hni hk;refine⟨v',h2,fun {h' m d ty pos af gu x i} hx hi=>ZAf fun e hs=>?_⟩
 show ZBV P _ h' e t x none (some i) none=_
 unfold ZBV;simp only[ZAJ hs hx,opvo,ZAJ hs hi,h1]
theorem ZJy (ho:ZAA h0 h v el (z+1) cs n)(hn:0<n)(ht:P.underlying t=some (.slice el))(hz:tsz P el=some (z+1))(hX:P.underlying tX=some dd)(hni:∀k,dd≠.int k)(hk:k<=n):∃v',(∀h1 h0',ZAA h0' h1 v el (z+1) cs n->asrc P el (z+1) tX v' h1=some (n-k,cs.drop (k*(z+1))))/\∀{h':Heap}{m:Mem}{d:Option Tmp}{ty:TypeId}{pos:String}{af:Array Edge}{gu:Option (Nat×Bool)}{x i:Operand},opk h' m x=some v->opk h' m i=some (.int ki (k:Int))->Aop P ⟨d,.slice t x (some i) none none,ty,pos,af,gu⟩ m h' v' h':=by
 obtain⟨v',h1,h2⟩:=ZF4 (kj:=ki) ho hn ht hz hX hni hk;refine⟨v',h2,fun {h' m d ty pos af gu x i} hx hi=>ZAf fun e hs=>?_⟩
 show ZBV P _ h' e t x (some i) none none=_
 unfold ZBV;simp only[ZAJ hs hx,opvo,ZAJ hs hi,h1]
end
end Go.Dw
namespace Go.Dx
variable {P:Program}
theorem ZNo {ι:Iota}{t el:TypeId}{b o sz n:Nat}{k:IntKind}{x':Value}(ht:P.underlying t=some (.slice el))(hz:tsz P el=some sz)(hpos:0<sz)(hn:1<=n)(hx:VR ι (.slice (some ⟨b,o,some sz⟩) n n) x')(w:World) :
  ∃v v',(Instr.sliceAt t x' (some (.int k 1)) none none).run P w=.ok v' w/\VR ι v v'/\(v=.slice (some ⟨b,o+sz,some sz⟩) (n-1) (n-1)\/(n=1/\v=.slice (some ⟨b,o,none⟩) 0 0)):=by
 obtain⟨cap',bi,hb,rfl,hsz,hcnt,hle⟩:∃cap' bi,ι b=some bi/\x'=.slice (some ⟨bi.blk,o,none⟩) n cap'/\sz=bi.sz/\o+cap'*bi.sz=bi.cnt/\n<=cap':=by
  generalize hq:(some sz:Option Nat)=q at hx
  cases hx with
  | sl=>cases hq
  | @slo _ _ _ _ cap' bi hb hcnt hle=>exact⟨cap',bi,hb,rfl,Option.some.inj hq,hcnt,hle⟩
  | sle=>exact absurd (Option.some.inj hq) (by omega)
 subst hsz;have hble:Nat.ble 1 n=true:=Nat.ble_eq_true_of_le hn;have hsb:sb n n (some (.int k 1)) none none=some (1,n,n):=by
  unfold sb bnd;simp only;have:ZCh (.int k 1)=some 1:=rfl;simp only[this,hble]
 obtain⟨hrun,hmc,hm0,hl0,hhm,hlh⟩:=ZIT (P:=P) (ι:=ι) (.some (.int k 1)) .none .none hsb hle true w;simp only[Option.isNone_none,if_true] at hrun
 by_cases hc:cap'=1
 ·subst hc
  have hn1:n=1:=by omega
  subst hn1;refine⟨.slice (some ⟨b,o,none⟩) 0 0,.slice (some ⟨bi.blk,o,none⟩) 0 0,?_,.sl hb,.inr ⟨rfl,rfl⟩⟩;simp only[Instr.sliceAt,Instr.slice,Sem.run_bind,run_underlying ht,Result.andThen_ok,hrun,run_sizeOf hz,Sem.run_pure,Option.map_some]
  rfl
 ·refine⟨.slice (some ⟨b,o+bi.sz,some bi.sz⟩) (n-1) (n-1),.slice (some ⟨bi.blk,o+1*bi.sz,none⟩) (n-1) (cap'-1),?_,?_,.inl rfl⟩
  ·simp only[Instr.sliceAt,Instr.slice,Sem.run_bind,run_underlying ht,Result.andThen_ok,hrun,run_sizeOf hz,Sem.run_pure,Option.map_some]
   rw[if_neg hc,ZBN]
  ·rw[Nat.one_mul]
   refine .slo hb ?_ (by omega);have:o+bi.sz+(cap'-1)*bi.sz=o+cap'*bi.sz:=by
    obtain⟨c,rfl⟩:∃c,cap'=c+1:=⟨cap'-1,by omega⟩;rw[Nat.add_sub_cancel,Nat.succ_mul];omega
   rw[this];exact hcnt
theorem ZMH {ι:Iota}{h:Heap}{w:World}(hr:HR ι h w.heap){argTypes:Array TypeId}{args':Array Value}{ty sType xType elem:TypeId}{s' x x':Value}{b o n k:Nat}{pre cs l:List Value}{i:TypeInfo}{z:Value}
  (h0:argTypes[0]?=some sType) (h1:argTypes[1]?=some xType) (a0:args'[0]?=some s') (a1:args'[1]?=some x') (hsv:VR ι (.slice (some ⟨b,o,some i.size⟩) n n) s') (hxv:VR ι x x')
  (hu:P.underlying sType=some (.slice elem)) (hi:P.info? elem=some i) (hz:ZA7 P elem=some z) (hzl:z.cells.toList.length=i.size) (hpos:0<i.size)
  (hg:h.get b=some (.cells (pre++cs) elem true)) (hpre:pre.length=o) (hcs:cs.length=n*i.size) (hsrc0:asrc P elem i.size xType x h=some (k,l)) (h1l:allOne l=true)
  (hb5:((n+k)+(n+k) / 4+512)*i.bytes<=281474976710656) (hb6:n+k<281474976710656) :
  ∃ι' v' w' pre',(Builtin.append_ argTypes ty args').run P w=.ok v' w'/\VR ι' (.slice (some ⟨h.nx,pre'.length,some i.size⟩) (n+k) (n+k)) v'/\HR ι' ((h.del b).add (.cells (pre'++(cs++l)) elem true)) w'.heap/\Adv ι h w ι' ((h.del b).add (.cells (pre'++(cs++l)) elem true)) w':=by
 have hsrc:=ZIg (P:=P) hr hxv hsrc0;obtain⟨hf,hzr⟩:=ZBG hz;have hzs:z.cells.size=i.size:=by rw[<-hzl];exact Array.length_toList.symm
 have hsz:tsz P elem=some i.size:=by simp[tsz,hi]
 obtain⟨bi,sCap',hb,rfl,hle,hbz,hcnt⟩:∃bi sCap',ι b=some bi/\s'=.slice (some ⟨bi.blk,o,none⟩) n sCap'/\n<=sCap'/\i.size=bi.sz/\o+sCap'*bi.sz=bi.cnt:=by
  generalize hq:(some i.size:Option Nat)=q at hsv
  cases hsv with
  | sl=>cases hq
  | @slo _ _ _ _ c' bi hb hc hle=>exact⟨bi,c',hb,rfl,hle,Option.some.inj hq,hc⟩
  | sle=>exact absurd (Option.some.inj hq) (by omega)
 clear hsv;obtain⟨c,hc,hcn,hlec,hop,hvs⟩:=hr.cellsAt hg hb;have hvl:(pre++cs).length=o+n*i.size:=by rw[List.length_append,hpre,hcs]
 rw[hvl] at hlec hvs;have holdR:VRL ι cs ((c.toList.drop o).take (n*i.size)):=by
  have:=hvs.drop o;rw[List.drop_append_of_le_length (by omega),List.drop_of_length_le (by omega),List.nil_append,List.drop_take,show o+n*i.size-o=n*i.size by omega] at this;exact this
 have hpreR:VRL ι pre (c.toList.take o):=by
  have:=hvs.take o;rw[List.take_append_of_le_length (by omega),List.take_of_length_le (by omega),List.take_take,Nat.min_eq_left (by omega)] at this;exact this
 have holdL:((c.toList.drop o).take (n*i.size)).length=n*i.size:=by simp;omega
 have holdrun:∀w1:World,w1.heap=w.heap->(Builtin.firstCells i.size n (.slice (some ⟨bi.blk,o,none⟩) n sCap')).run P w1=.ok ((c.toList.drop o).take (n*i.size)).toArray w1:=by
  intro w1 hw1;simp only[Builtin.firstCells];exact ZAq (w:=w1) (by rw[hw1];exact hc) (by omega)
 by_cases hfit:n+k<=sCap'
 ·obtain⟨l',e1,e2,e3⟩:=ZBO (P:=P) (ty:=ty) h0 h1 a0 a1 hu hsz hsrc hfit
  have hcs':c.size=o+sCap'*i.size:=by rw[hcn,<-hcnt,hbz]
  have hin:o+n*i.size+k*i.size<=c.size:=by
   rw[hcs',Nat.add_assoc,<-Nat.add_mul];exact Nat.add_le_add_left (Nat.mul_le_mul_right _ hfit) _
  have hst:=run_storeCells_at (P:=P) bi.blk (o+n*i.size) elem l' 0 c w hc (by rw[e2];omega) (e1.allOne h1l);rw[Nat.add_zero] at hst;simp only[ZBN,hst,Result.andThen_ok] at e3
  have hset:=hr.set (o2:=.cells (pre++(cs++l)) elem true) (o2':=.cells (c.toList.take (o+n*i.size)++l'++c.toList.drop (o+n*i.size+l'.length)).toArray elem (0,0)) hg hb (by
   simp only[OR];have hll:(pre++(cs++l)).length=o+n*i.size+k*i.size:=by
    rw[<-List.append_assoc,List.length_append,hvl,e1.length,e2]
   refine⟨trivial,trivial,?_,?_,(fun hh=>nomatch hh),?_⟩
   ·simp;omega
   ·rw[hll];simp;omega
   ·rw[hll,List.toList_toArray,List.append_assoc]
    have hA:(c.toList.take (o+n*i.size)).length=o+n*i.size:=by simp;omega
    rw[List.take_append,List.take_of_length_le (by omega:(c.toList.take (o+n*i.size)).length<=o+n*i.size+k*i.size),hA,
     show o+n*i.size+k*i.size-(o+n*i.size)=l'.length by omega,List.take_append_of_le_length (Nat.le_refl _),List.take_length,<-List.append_assoc]
    exact hvs.append e1)
  have hmv:=HR.move (w:={ w with heap:=_ }) hset.1 (Heap.get_set_same _ hg) hb
  have hgeq:=ZH8 (h:=h) (b:=b) (.cells (pre++(cs++l)) elem true) (.cells (pre++(cs++l)) elem true);refine⟨upd ι h.nx bi,_,_,pre,e3,?_,?_,?_⟩
  ·have hq:upd ι h.nx bi h.nx=some bi:=upd_same _ _ _
   rw[hbz,hpre];exact VR.slo hq hcnt hfit
  ·rw[ZEp hc];exact HR.congr hgeq rfl rfl hmv.1
  ·rw[ZDo hc];exact Adv.congr hgeq rfl rfl (hset.2.trans hmv.2)
 ·obtain⟨l',nc,rest,e1,e2,e3,e4,e5⟩:=ZBd (P:=P) (ty:=ty) h0 h1 a0 a1 hu hsz hi hzr hzs hpos hsrc hfit hb5 hb6 holdrun
  have hll:((c.toList.drop o).take (n*i.size)++l').length=(n+k)*i.size:=by rw[List.length_append,holdL,e2,Nat.add_mul]
  obtain⟨ι',b1,b2,b3⟩:=ZDS (hr.del b).1 (holdR.append e1) hll e4 e3 rfl;exact⟨ι',_,_,[],e5,b1,b2,(hr.del b).2.trans (b3.alike rfl rfl rfl rfl (by first|exact Nat.le_refl _|exact Nat.le_succ _|simp))⟩
end Go.Dx
namespace Go.Dw
open Go Go.Dx
variable {P:Program}
section
variable {fr:Fr}{ops:Array Oper}{o:Oper}{m:Mem}{ds:List ADef}{h:Heap}{K Kp:Value->List ADef->Heap->Prop}
theorem ZSA (hg:gk ops.toList m o.guard=some true)(hp:ZEe o.op=true)(hA:∀e,Sat m e->∀(ι:Iota)(w:World)(a:Act),HR ι h w.heap->EnvR ι e a.tmps->∃v h1,OpS P ι h w (execOp a.eval o) v h1/\K v ds h1):W1 P fr ops o m ds h K Kp:=by
 refine⟨?_⟩;intro k ho e hs ι w a F hr hfr hF Kx Qx T;unfold wpOpIn;simp only[ho];rw[ZBK hfr (ZEl hs hg)];simp only[if_true];have hnd:∀c',o.op≠.defer c':=fun c' he=>by rw[he] at hp;cases hp
 obtain⟨v,h1,⟨ι',v',w',hrun,hv,hr',ha⟩,hk⟩:=hA e hs ι w a hr hfr.env;refine⟨fun f _=>hF.fn f,?_⟩;rw[Oper.semAt_eq _ _ _ hnd]
 rcases hrun with hrun|⟨hrun,rfl⟩
 ·rw[hrun,Oper.uponIn_value]
  exact T.normal v ds h1 hk ι' v' _ w' rfl hv ha hr' (by rw[ZBh];exact hfr.df.mono ha.sub)
 ·rw[hrun,Oper.uponIn_skip]
  exact T.normal v ds h1 hk ι' _ _ w' rfl hv ha hr' (by rw[ZBh];exact hfr.df.mono ha.sub)
end
def ZJW (h:Heap)(v:Value)(el:TypeId)(sz:Nat)(cs:List Value)(n:Nat):Prop :=
 cs.length=n*sz/\∃b o sp,v=.slice (some ⟨b,o,sp⟩) n n/\((sp=some sz/\∃pre,pre.length=o/\h.get b=some (.cells (pre++cs) el true))\/(sp=none/\∃pre post op,pre.length=o/\h.get b=some (.cells (pre++(cs++post)) el op)))
theorem ZJW.keep {h h':Heap}{v:Value}{el:TypeId}{sz n:Nat}{cs:List Value}(hq:ZJW h v el sz cs n)(hk:∀c o,ZA2 v=some c->h.get c=some o->h'.get c=some o):ZJW h' v el sz cs n:=by
 obtain⟨h1,b,o,sp,rfl,h2⟩:=hq;refine⟨h1,b,o,sp,rfl,?_⟩
 rcases h2 with ⟨e,pre,h3,h4⟩|⟨e,pre,post,op,h3,h4⟩
 ·exact .inl ⟨e,pre,h3,hk _ _ rfl h4⟩
 ·exact .inr ⟨e,pre,post,op,h3,hk _ _ rfl h4⟩
theorem ZJW.is {h:Heap}{v:Value}{el:TypeId}{sz n:Nat}{cs:List Value}(hq:ZJW h v el sz cs n):∃b o oa,v=.slice (some ⟨b,o,oa⟩) n n/\cs.length=n*sz/\∀i (hi:i<cs.length),ZAa h b (o+i)=some cs[i]:=by
 obtain⟨h1,b,o,sp,rfl,h2⟩:=hq;refine⟨b,o,sp,rfl,h1,fun i hi=>?_⟩
 rcases h2 with ⟨-,pre,h3,h4⟩|⟨-,pre,post,op,h3,h4⟩
 ·refine ZAh h4 ?_
  rw[ZAs,List.getElem?_append_right (by omega),show o+i-pre.length=i by omega,List.getElem?_eq_getElem hi]
 ·refine ZAh h4 ?_
  rw[ZAs,List.getElem?_append_right (by omega),show o+i-pre.length=i by omega,List.getElem?_append_left hi,List.getElem?_eq_getElem hi]
def quI (v:Value)(el:TypeId)(sz:Nat)(cs:List Value)(n:Nat):It where
 S:=fun c=>ZA2 v=some c
 p:=fun h=>ZJW h v el sz cs n
 loc:=fun hk hp=>hp.keep fun c o hb hg=>hk c o hb hg
 ex:=fun hp hc=>by
  obtain⟨h1,b,o,sp,rfl,h2⟩:=hp;cases (show some b=some _ from hc)
  rcases h2 with ⟨-,pre,h3,h4⟩|⟨-,pre,post,op,h3,h4⟩
  ·exact⟨_,h4⟩
  ·exact⟨_,h4⟩
theorem Own.newQu {h0 h h':Heap}{I:List It}{b n sz:Nat}{el:TypeId}{cs:List Value}(hO:Own h0 h I)(hw:WF h)(hn:h0.nx<=h.nx)(he:Ext h h')(hg:h'.get b=some (.cells cs el false))(hl:cs.length=n*sz)(hb:h.nx<=b):Own h0 h' (quI (.slice (some ⟨b,0,none⟩) n n) el sz cs n::I) :=
 hO.new hw hn he ⟨hl,b,0,none,rfl,.inr ⟨rfl,[],[],false,rfl,by simpa using hg⟩⟩ fun c hc=>by cases (show some b=some c from hc);exact hb
section
variable {fr:Fr}{m:Mem}{ds:List ADef}{h:Heap}{Q:CQ}{ops:Array Oper}{lo:List Oper}{d:Nat}{ty:TypeId}{pos:String}{af:Array Edge}{gu:Option (Nat×Bool)}
theorem ZQA {h0:Heap}{I:List It}{t el:TypeId}{sz n:Nat}{x:Operand}{k:IntKind}{v:Value}{cs:List Value}(hg:gk ops.toList m gu=some true)(hlt:Nat.blt d fr.nt=true)(ht:P.underlying t=some (.slice el))(hz:tsz P el=some sz)(hpos:0<sz)(hx:opk h m x=some v)(hO:Own h0 h (quI v el sz cs (n+1)::I))
  (hk:∀v',Own h0 h (quI v' el sz (cs.drop sz) n::I)->Wo P fr ops lo (upd m d v') ds h Q):Wo P fr ops (⟨some d,.slice t x (some (.const (.int k 1))) none none,ty,pos,af,gu⟩::lo) m ds h Q:=by
 refine ZI8 (ZSA hg rfl fun e hs ι w a hr he=>?_) hlt;obtain⟨hl,b,o,sp,rfl,hq⟩:=(hO.p1:ZJW h v el sz cs (n+1));have hxv:=ZAH hr he (ZAJ hs hx);have hlo:a.eval (.const (.int k 1))=.int k 1:=rfl
 have hex:∀r,(Instr.sliceAt t (a.eval x) (some (.int k 1)) none none).run P w=.ok r w->(execOp a.eval ⟨some d,.slice t x (some (.const (.int k 1))) none none,ty,pos,af,gu⟩).run P w=.ok (.value r) w:=fun r hrun=>by
  unfold execOp;simp only[Option.map_some,Option.map_none,hlo,Sem.run_bind,hrun,Result.andThen_ok,Sem.run_pure]
 have hdl:(cs.drop sz).length=n*sz:=by rw[List.length_drop,hl,Nat.succ_mul];omega
 have hcsz:sz<=cs.length:=by rw[hl,Nat.succ_mul];omega
 have htd:cs.take sz++cs.drop sz=cs:=List.take_append_drop _ _
 rcases hq with ⟨rfl,pre,hpl,hgb⟩|⟨rfl,pre,post,op,hpl,hgb⟩
 ·obtain⟨v,v',hrun,hv,hc⟩:=ZNo (P:=P) (k:=k) ht hz hpos (by omega) hxv w
  refine⟨v,h,OpS.here hr (hex _ hrun) hv,hk v (hO.as (fun _=>?_) ?_)⟩
  ·refine⟨hdl,?_⟩
   rcases hc with rfl|⟨hn,rfl⟩
   ·refine⟨b,o+sz,some sz,rfl,.inl ⟨rfl,pre++cs.take sz,by rw[List.length_append,List.length_take];omega,?_⟩⟩
    rw[List.append_assoc,htd];exact hgb
   ·have hn0:n=0:=by omega
    subst hn0;rw[Nat.zero_mul] at hdl;have e:=List.eq_nil_of_length_eq_zero hdl;refine⟨b,o,none,rfl,.inr ⟨rfl,pre,cs,true,hpl,?_⟩⟩;rw[e];exact hgb
  ·intro c hcc
   rcases hc with rfl|⟨-,rfl⟩
   ·exact hcc
   ·exact hcc
 ·have hsl:ZAu P t (.slice (some ⟨b,o,none⟩) (n+1) (n+1)) (some (.int k 1)) none none=some (.slice (some ⟨b,@Bool.casesOn (fun _=>Nat) (Nat.beq (n+1) 1) (Nat.add o (Nat.mul 1 sz)) o,none⟩) n n):=by
   have hble:Nat.ble 1 (n+1)=true:=Nat.ble_eq_true_of_le (by omega);have hsb:sb (n+1) (n+1) (some (.int k 1)) none none=some (1,n+1,n+1):=by
    unfold sb bnd;simp only;have:ZCh (.int k 1)=some 1:=rfl;simp only[this,hble]
   unfold ZAu;simp only[ht,hsb,hz]
   rfl
  obtain⟨v',hrun,hv⟩:=ZGQ (P:=P) hxv (.some (.int k 1)) .none .none hsl w;refine⟨_,h,OpS.here hr (hex _ hrun) hv,hk _ (hO.as (fun _=>⟨hdl,?_⟩) fun c hcc=>hcc)⟩;cases hb:Nat.beq (n+1) 1
  ·refine⟨b,o+1*sz,none,rfl,.inr ⟨rfl,pre++cs.take sz,post,op,by rw[List.length_append,List.length_take];omega,?_⟩⟩
   rw[List.append_assoc,<-List.append_assoc (cs.take sz),htd];exact hgb
  ·have hn0:n=0:=by have:=Nat.eq_of_beq_eq_true hb;omega
   subst hn0;rw[Nat.zero_mul] at hdl;have e:=List.eq_nil_of_length_eq_zero hdl;refine⟨b,o,none,rfl,.inr ⟨rfl,pre,cs++post,op,hpl,?_⟩⟩;rw[e];exact hgb
end
section
variable {fr:Fr}{m:Mem}{ds:List ADef}{h:Heap}{ops:Array Oper}{d:Option Tmp}{ty:TypeId}{pos:String}{af:Array Edge}{gu:Option (Nat×Bool)}{K Kp:Value->List ADef->Heap->Prop}
theorem ZNp {h0:Heap}{I:List It}{o:Oper}{tS tX el:TypeId}{sz by':Nat}{c:Call}{s x:Operand}{v xv:Value}{cs l:List Value}{n k:Nat}{ts:List TypeId}(ho:o=⟨d,.call c,ty,pos,af,gu⟩)(hw0:WF h0)(he0:Ext h0 h)(hg:gk ops.toList m gu=some true)(hc:c.callee=.builtin .append)(hargs:c.args=#[s,x])(hat:c.argTypes.toList=tS::tX::ts)(hS:P.underlying tS=some (.slice el))(hE:Elm P el sz by')
  (hs:opk h m s=some v) (hx:opk h m x=some xv) (hO:Own h0 h (quI v el sz cs n::I)) (hsrc:asrc P el sz tX xv h=some (k,l)) (hl:l.length=k*sz) (h1:allOne l=true) (hk0:0<k)
  (hb:((n+k)+(n+k) / 4+512)*by'<=281474976710656) (hb2:n+k<281474976710656)
  (hk:∀v' h',Own h0 h' (quI v' el sz (cs++l) (n+k)::I)->Ext h0 h'->K v' ds h'):W1 P fr ops o m ds h K Kp:=by
 subst ho;refine ZN0 fun hw=>ZSA hg (by show ZBy c.callee=true;rw[hc];rfl) fun e hsat ι w a hr he=>?_;obtain⟨hcl,b,of,sp,rfl,hq⟩:=(hO.p1:ZJW h v el sz cs n);have hlo:=hO.lo _ List.mem_cons_self b rfl;obtain⟨i,z,i1,i2,i3,i4,i5,i6⟩:=hE.h
 have hex:∀r w',(Builtin.append_ c.argTypes ty (c.args.map a.eval)).run P w=.ok r w'->(execOp a.eval ⟨d,.call c,ty,pos,af,gu⟩).run P w=.ok (.value r) w':=fun r w' hrr=>by
  unfold execOp;simp only[resolve,hc,Sem.run_bind,Sem.run_pure,Result.andThen_ok,invoke,builtin,hrr]
 have ha0:(c.args.map a.eval)[0]?=some (a.eval s):=ZCR (l:=[a.eval x]) (by simp[hargs]);have ha1:(c.args.map a.eval)[1]?=some (a.eval x):=ZEw (l:=[]) (x:=a.eval s) (by simp[hargs]);have hsv:=ZAH hr he (ZAJ hsat hs);have hxv:=ZAH hr he (ZAJ hsat hx)
 have hfin:∀(pre':List Value) (h':Heap),h'.get h.nx=some (.cells (pre'++(cs++l)) el true)->(∀q oq,q≠b->h.get q=some oq->h'.get q=some oq)->h'.nx=h.nx+1->h'.gl=h.gl->K (.slice (some ⟨h.nx,pre'.length,some sz⟩) (n+k) (n+k)) ds h':=fun pre' h' g1 g2 g3 g4=>by
  have hX:Exb (quI (.slice (some ⟨b,of,sp⟩) n n) el sz cs n).S h h':=⟨fun q oq hq1 hq2=>g2 q oq (fun e=>hq1 (by rw[e];rfl)) hq2,by omega,g4⟩;refine hk _ _ (hO.put hw he0.2.1 hX ⟨by rw[List.length_append,hcl,hl,Nat.add_mul],h.nx,pre'.length,some sz,rfl,.inl ⟨rfl,pre',rfl,g1⟩⟩ fun q hq=>?_) (hO.grows hX he0 hw0);cases (show some h.nx=some q from hq);exact .inr (Nat.le_refl _)
 rcases hq with ⟨rfl,pre,hpl,hgb⟩|⟨rfl,pre,post,op,hpl,hgb⟩
 ·subst i2;subst i3
  obtain⟨ι',v',w',pre',e1,e2,e3,e4⟩:=ZMH (P:=P) hr (ty:=ty) (ZCR hat) (ZEw hat) ha0 ha1 hsv hxv hS i1 i4 (Nat.eq_of_beq_eq_true i5) (by rw[Nat.blt_eq] at i6;exact i6) hgb hpl hcl hsrc h1 hb hb2;refine⟨_,_,⟨ι',v',w',.inl (hex _ _ e1),e2,e3,e4⟩,hfin pre' _ (Heap.get_add_same (h:=h.del b)) (fun q oq hqb hgq=>?_) rfl rfl⟩;rw[Heap.get_add_other (h:=h.del b) (by have:=hw q oq hgq;show q≠h.nx;omega),Heap.get_del_other hqb];exact hgq
 ·have hap:ZBq P tS tX (.slice (some ⟨b,of,none⟩) n n) xv h=.ok (.slice (some ⟨h.nx,0,some sz⟩) (n+k) (n+k)) (h.add (.cells (cs++l) el true)):=by
   have e1:Nat.ble (Nat.mul (Nat.add (Nat.add (Nat.add n k) (Nat.div (Nat.add n k) 4)) 512) by') 281474976710656=true:=Nat.ble_eq_true_of_le hb;have e2:Nat.blt (Nat.add n k) 281474976710656=true:=by rw[Nat.blt_eq];exact hb2
   have e3:Nat.ble (Nat.add n k) n=false:=by
    cases hq:Nat.ble (Nat.add n k) n with
    | false=>rfl
    | true=>have:=Nat.le_of_ble_eq_true hq;have:n+k<=n:=this;omega
   have hcut:cut (pre++(cs++post)) of (Nat.mul n sz)=some cs:=by
    unfold cut;have:Nat.ble (Nat.add of (Nat.mul n sz)) (pre++(cs++post)).length=true:=Nat.ble_eq_true_of_le (by show of+n*sz<=_;rw[List.length_append,List.length_append];omega);rw[this];simp only
    congr 1
    rw[List.drop_append_of_le_length (by omega),List.drop_of_length_le (by omega),List.nil_append]
    show (cs++post).take (n*sz)=cs
    rw[List.take_append_of_le_length (by omega),List.take_of_length_le (by omega)]
   unfold ZBq;simp only[hS,i1,i4,i2,i5,i6,hsrc,i3,hgb,h1,e3,e1,e2,hcut]
   rfl
  obtain⟨ι',v',w',g1,g2,g3,g4⟩:=ZFT (P:=P) hr (ty:=ty) (ZCR hat) (ZEw hat) ha0 ha1 hsv hxv hap;refine⟨_,_,⟨ι',v',w',.inl (hex _ _ g1),g2,g3,g4⟩,hfin [] _ Heap.get_add_same (fun q oq _ hgq=>?_) rfl rfl⟩;rw[Heap.get_add_other (by have:=hw q oq hgq;omega)];exact hgq
end
end Go.Dw
namespace Go.Dw
open Go Go.Dx
variable {P:Program}{H:Type}{enc:TypeId×Value->H}{W:World}{cs:List Value}{t e:TypeId}
end Go.Dw
namespace Go.Dw
open Go Go.Dx
set_option maxRecDepth 100000
section
variable {H:Type}{enc:TypeId×Value->H}{P:Program}{W:World}{t e:TypeId}{cs:List Value}
def RdW (enc:TypeId×Value->H)(P:Program)(W:World)(t:TypeId)(cs:List Value):Prop:=∃n x,DataW.trod enc P W 0 (fun _=>true) true n t cs=some x/\∀k∈x.1.weights P t,k<=reachBytes
theorem RdW.rd (h:RdW enc P W t cs):Rd enc P W t cs:=by
 obtain⟨n,x,h1,_⟩:=h;exact⟨n,x,h1⟩
theorem ZOF {fs:Array Field}(ht:P.underlying t=some (.struct fs))(h:RdW enc P W t cs):∀(i:Nat)(f:Field),fs[i]?=some f->RdW enc P W f.type ((cs.drop f.offset).take (P.cellsOf f.type)):=by
 obtain⟨m,x,hx,hw⟩:=h;obtain⟨xs,n,_,rfl,_,h2,h3⟩:=DataW.trod_struct ht hx;intro i f hi;have:=h3 i f hi;have hlt:i<xs.length:=by rw[h2];exact (Array.getElem?_eq_some_iff.1 hi).1
 rw[List.getElem?_eq_getElem hlt] at this;refine⟨n,_,this,fun k hk=>hw k ?_⟩
 show k∈(DataW.agg (xs.map (·.1))).weights P t
 rw[DataW.weights,ht];refine DataW.weights_mem_each (j:=i) (t:=f.type) (d:=xs[i].1) ?_ ?_ k hk
 ·rw[List.getElem?_map,Array.getElem?_toList,hi];rfl
 ·rw[List.getElem?_map,List.getElem?_eq_getElem hlt];rfl
theorem ZHI:∀{l:List (DataW H)}{d:DataW H},d∈l->∀k∈d.weights P e,k∈DataW.weightsAll P e l
 | a::l,d,hd,k,hk=>by
  rw[DataW.weightsAll]
  rcases List.mem_cons.1 hd with rfl|g
  ·exact List.mem_append_left _ hk
  ·exact List.mem_append_right _ (ZHI g k hk)
theorem ZKs (ht:P.underlying t=some (.slice e))(hz:0<P.cellsOf e)(h:RdW enc P W t cs):∃v a len cap,cs=[v]/\okv W.heap.size v=true/\nz v=.slice a len cap/\len<9223372036854775808/\len*P.bytesOf e<=reachBytes ∧
  ∀i,i<len->∃b o,a=some ⟨b,o,none⟩/\∃row c t fz,W.heap[b]?=some (.cells c t fz)/\cut c.toList (o+i*P.cellsOf e) (P.cellsOf e)=some row/\RdW enc P W e row:=by
 have h5:maxLen=9223372036854775807:=by decide
 obtain⟨m,x,hx,hw⟩:=h
 rcases DataW.trod_slice ht hx with ⟨h1,_⟩|⟨a,len,cap,elems,rest,n,_,h1,hxe,_,hlc,hcm,hel,he,hr,_⟩
 ·exact⟨_,none,0,0,h1,rfl,rfl,by decide,by rw[Nat.zero_mul];exact Nat.zero_le _,fun i hi=>by omega⟩
 ·subst hxe
  have hwe:(DataW.slice (elems.map (·.1)) (rest.map (·.1))).weights P t=((elems.map (·.1)).length+(rest.map (·.1)).length)*P.bytesOf e::(DataW.weightsAll P e (elems.map (·.1))++DataW.weightsAll P e (rest.map (·.1))):=by
   rw[DataW.weights,ht]
  simp only[hwe] at hw;have hbytes:len*P.bytesOf e<=reachBytes:=by
   have h1:=hw _ List.mem_cons_self;rw[List.length_map,List.length_map,hel] at h1;exact Nat.le_trans (Nat.mul_le_mul_right _ (Nat.le_add_right _ _)) h1
  have hread:∀i,i<len->∃row,W.cells? 0 (a.add (i*P.cellsOf e)) (P.cellsOf e)=some row/\RdW enc P W e row:=by
   intro i g;have hb:=he i g;have hil:i<elems.length:=by omega
   rw[List.getElem?_eq_getElem hil] at hb
   cases hc:W.cells? 0 (a.add (i*P.cellsOf e)) (P.cellsOf e) with
   | none=>rw[hc] at hb;cases hb
   | some row =>
    rw[hc] at hb;refine⟨row,rfl,n,_,hb,fun k hk=>hw k (List.mem_cons_of_mem _ (List.mem_append_left _ (ZHI (List.mem_map.2 ⟨_,List.getElem_mem hil,rfl⟩) k hk)))⟩
  by_cases hlen:len=0
  ·subst hlen
   obtain⟨v,a',len',cap',g1,g2,g3,g4,g5⟩:=ZQy ht hz ⟨m,_,hx⟩;have hv:v=.slice (some a) 0 cap:=by rw[h1] at g1;exact (List.cons.inj g1).1.symm
   have:len'=0:=by
    rw[hv] at g3;unfold nz at g3
    split at g3
    ·simp only[Value.slice.injEq] at g3;exact g3.2.1.symm
    ·simp only[Value.slice.injEq] at g3;exact g3.2.1.symm
   subst this;exact⟨v,a',0,cap',g1,g2,g3,g4,hbytes,fun i hi=>absurd hi (Nat.not_lt_zero _)⟩
  ·obtain⟨row0,hc0,_⟩:=hread 0 (by omega)
   have e0:a.add (0*P.cellsOf e)=a:=by simp[Addr.add]
   rw[e0] at hc0;obtain⟨hsp,c,t',fz,hb,_⟩:=ZD0 hc0 hz;obtain⟨b,o,sp⟩:=a;simp only at hsp hb;subst hsp;have hlt:b<W.heap.size:=(Array.getElem?_eq_some_iff.1 hb).1;have hne:¬(len=0/\cap=0):=fun h=>hlen h.1;refine⟨_,some ⟨b,o,none⟩,len,cap,h1,?_,?_,by omega,hbytes,fun i hi=>⟨b,o,rfl,?_⟩⟩
   ·have hbl:Nat.blt b W.heap.size=true:=by rw[Nat.blt_eq];exact hlt
    exact ZR9 hbl
   ·unfold nz
    split
    ·rename_i hq;simp only[Value.slice.injEq] at hq;exact absurd ⟨hq.2.1,hq.2.2⟩ hne
    ·rfl
   ·obtain⟨row,hc,hrd⟩:=hread i hi
    obtain⟨_,c1,t1,fz1,hb1,hcut⟩:=ZD0 hc hz;have hblk:((⟨b,o,none⟩:Addr).add (i*P.cellsOf e)).block=b:=by unfold Addr.add;split <;> rfl
    have hoff:((⟨b,o,none⟩:Addr).add (i*P.cellsOf e)).off=o+i*P.cellsOf e:=by unfold Addr.add;split <;> simp_all
    rw[hblk] at hb1;rw[hoff] at hcut;exact⟨row,c1,t1,fz1,hb1,hcut,hrd⟩
theorem ZQ6 {α:Type}{R:Heap->List Value->α->Prop}{Fit:α->Prop}{k:Nat}(ht:P.underlying t=some (.slice e))(hz:P.cellsOf e=k)(hk:0<k)(hel:∀row,RdW enc P W e row->∃x,row.all (okv W.heap.size)=true/\R (ro W) (row.map nz) x/\Fit x)(h:RdW enc P W t cs) :
  ∃v a l cap,cs=[v]/\okv W.heap.size v=true/\nz v=.slice a l.length cap/\ZBH k R (ro W) a l/\Len l/\∀x∈l,Fit x:=by
 obtain⟨v,a,len,cap,h1,h2,h3,h4,_,h5⟩:=ZKs ht (by omega) h;have:∀i,i<len->∃x,(∃b o,a=some ⟨b,o,none⟩/\∃row,ZAw (ro W) b (o+i*k) k=some row/\R (ro W) row x)/\Fit x:=by
  intro i hi;obtain⟨b,o,ha,row,c,t',fz,hb,hc,hrd⟩:=h5 i hi;obtain⟨x,ok,hx,hf⟩:=hel row hrd;rw[hz] at hc;exact⟨x,⟨b,o,ha,_,ZSD hb hc ok,hx⟩,hf⟩
 obtain⟨l,hl,hR⟩:=ZSu this;subst hl;refine⟨v,a,l,cap,h1,h2,h3,fun i hi=>?_,h4,fun x hx=>?_⟩
 ·obtain⟨⟨b,o,ha,row,hc,hx⟩,_⟩:=hR i hi
  exact⟨b,o,none,ha,row,hc,hx⟩
 ·obtain⟨i,hi,rfl⟩:=List.getElem_of_mem hx
  exact (hR i hi).2
end
end Go.Dw
namespace Go.Dw
open Go.Dx Go.ChangeShapes Go.WideShapes Go.ChangeAt Go.RowKit
variable {H:Type}{enc:TypeId×Value->H}{P:Program}{W W':World}
theorem ZFE {T:TypeId->Prop}{sp:Nat->Bool}(K:Kids P T)(hz:∀t e,T t->P.underlying t=some (.slice e)->0<P.cellsOf e):∀{ts:List TypeId}{vs:List Value}{ds:List (DataW H)}{ps:List MemPlace},(∀t∈ts,T t)->DataW.TrodAll enc P W 0 (fun _=>true) true ts vs ds ps->(∀p∈ps,W.sameAt W' p)->(∀p∈ps,sp p.block=true)->DataW.TrodAll enc P W' 0 sp true ts vs ds ps
 | [],[],[],_,_,h,_,_=>h
 | t::ts,v::vs,d::ds,_,hT,⟨p,q,⟨n,h1⟩,h2,e⟩,hw,hs=>by
  subst e;refine⟨p,q,⟨n,DataW.trod_stays (x:=(d,p)) K (fun a b=>hz _ _ a b) (fun h=>by cases h) (hT t List.mem_cons_self) h1 (fun x hx=>hw x (List.mem_append_left _ hx)) (fun x hx=>hs x (List.mem_append_left _ hx))⟩,?_,rfl⟩;exact ZFE K hz (fun t ht=>hT t (List.mem_cons_of_mem _ ht)) h2 (fun x hx=>hw x (List.mem_append_right _ hx)) (fun x hx=>hs x (List.mem_append_right _ hx))
theorem ZOw (hu:Unch W W'):∀p:MemPlace,p.block<W.heap.size->W.sameAt W' p
 | .cell b off,hp=>by
  have:W'.heap[b]?=W.heap[b]?:=hu.same b hp;simp only[World.sameAt,World.cell?,this]
 | .map b,hp=>hu.same b hp
theorem ZPx (u:Unch W W')(may:MemPlace->Prop):W.keptBut W' may:=by
 refine⟨u.os,u.out,fun i hi=>?_⟩;rw[u.same i hi]
 cases hq:W.heap[i]? with
 | none=>rfl
 | some o=>cases o <;> first|rfl|exact⟨rfl,rfl,rfl,fun _ _=>rfl⟩|exact .inr ⟨rfl,rfl⟩
theorem ZJx {f:Func}{s:ChangeSpec}{args:Array Value}{v:Value}{ds gs:List (DataW H)}{ZAr pa pv:List MemPlace}
  (hW:DataW.Whole enc P f.params.toList s.vars false W args.toList ds gs ZAr)
  (hres:∀(b:Nat) (sp:Nat->Bool) (hd:Bool),DataW.TrodAll enc P W' b sp hd f.resultTypes.toList (v.resultList f.resultTypes.size) (s.fn H (ds++gs)).results [])
  (hargs:∀sp:Nat->Bool,(∀p∈ZAr,sp p.block=true)->DataW.TrodAll enc P W' 0 sp true f.params.toList args.toList (s.fn H (ds++gs)).args pa)
  (hvars:∀sp:Nat->Bool,(∀p∈ZAr,sp p.block=true)->DataW.TrodVars enc P W' sp s.vars (s.fn H (ds++gs)).vars pv)
  (hu:Unch W W'):s.post enc P f false true false false W args v W':=by
 have hlt:=hW.lt;have hold:∀p∈ZAr,(fun b=>decide (b<W.heap.size)) p.block=true:=fun p hp=>by simpa using hlt p hp
 exact⟨ds,gs,ZAr,[],pa,pv,hW,hres _ _ _,hargs _ hold,hvars _ hold,ZPx hu _,fun h=>nomatch h⟩
theorem ZPt {fn:Func}{s:ChangeSpec}{args:Array Value}{ds:List (DataW H)}{ZAr:List MemPlace}{T:TypeId->Prop}(K:Kids P T)(hz:∀t e,T t->P.underlying t=some (.slice e)->0<P.cellsOf e)(hT:∀t∈fn.params.toList,T t)
  (hW:DataW.Whole enc P fn.params.toList s.vars false W args.toList ds [] ZAr) (hv:s.vars=[]) (hres:(s.fn H (ds++[])).results=[.lit (.bool true)]) (hargs:(s.fn H (ds++[])).args=ds) (hvr:(s.fn H (ds++[])).vars=[])
  (hrt:fn.resultTypes=#[4]) (h4:P.underlying 4=some .bool) (hu:Unch W W'):s.post enc P fn false true false false W args (.bool true) W':=by
 have hW':=hW;obtain⟨p,q,hA,hV,rfl,_,_⟩:=hW;rw[hv] at hV;obtain⟨_,rfl⟩:=trodVars_none hV;rw[List.append_nil] at hW';refine ZJx (pa:=p) (pv:=[]) hW' (fun _ _ _=>?_) (fun sp hsp=>?_) (fun _ _=>?_) hu
 ·rw[hres,hrt];exact trodAll_cons_mk (shut_bool h4 _) trodAll_mk0
 ·rw[hargs]
  exact ZFE K hz hT hA (fun x hx=>ZOw hu x (hW'.lt x hx)) (fun x hx=>hsp x hx)
 ·rw[hv,hvr];exact rfl
end Go.Dw
