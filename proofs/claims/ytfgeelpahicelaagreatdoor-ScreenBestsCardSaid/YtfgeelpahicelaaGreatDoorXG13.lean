/- DzB: arguments: out of the row's reader into the abstract heap in which the world itself is only read; a contract there is one of the row's. -/
import Derived.ChangeArms
import Derived.RowKit3
import Derived.WalkKit
import Derived.ProofKit
import Derived.OpenShut
import Derived.Deep.DeepHandedRow
import Derived.ReadAgain
import Derived.ChangeStays
import Derived.Test.YtfgeelpahicelaaGreatDoorXG2
set_option linter.unusedVariables false
set_option linter.unusedSimpArgs false
namespace Go.Dw
open Go.Dx
variable {H:Type}{enc:TypeId×Value->H}{P:Program}{W:World}{t e:TypeId}{cs:List Value}
noncomputable abbrev ro (W:World):Heap:=roH W.heap.size W.heap.size W
def Rd (enc:TypeId×Value->H)(P:Program)(W:World)(t:TypeId)(cs:List Value):Prop:=∃n x,DataW.trod enc P W 0 (fun _=>true) true n t cs=some x
theorem ZBZ (ht:P.underlying t=some (.int .i64))(h:Rd enc P W t cs):∃n,cs=[i64 n]/\I64 n:=by
 obtain⟨m,x,hx⟩:=h;obtain⟨n,h1,_,h3⟩:=DataW.trod_int ht hx;refine⟨n,h1,?_⟩;simp[Lit.wf] at h3;have h4:IntKind.i64.min = -9223372036854775808:=by decide
 have h5:IntKind.i64.max=9223372036854775807:=by decide
 omega
theorem ZBy (ht:P.underlying t=some .string)(h:Rd enc P W t cs):∃s:List UInt8,cs=[str s]/\Len s:=by
 obtain⟨m,x,hx⟩:=h;obtain⟨⟨⟨s⟩⟩,h1,_,h3⟩:=DataW.trod_string ht hx;refine⟨s,h1,?_⟩;have:s.length<=maxLen:=h3;have h5:maxLen=9223372036854775807:=by decide
 omega
theorem ZRW (ht:P.underlying t=some .bool)(h:Rd enc P W t cs):∃b,cs=[.bool b]:=by
 obtain⟨m,x,hx⟩:=h;obtain⟨b,h1,_⟩:=DataW.trod_bool ht hx;exact⟨b,h1⟩
theorem ZBm {fs:Array Field}(ht:P.underlying t=some (.struct fs))(h:Rd enc P W t cs):cs.length=P.cellsOf t/\∀(i:Nat)(f:Field),fs[i]?=some f->Rd enc P W f.type ((cs.drop f.offset).take (P.cellsOf f.type)):=by
 obtain⟨m,x,hx⟩:=h;obtain⟨xs,n,_,_,h1,h2,h3⟩:=DataW.trod_struct ht hx;refine⟨h1,fun i f hi=>?_⟩;have:=h3 i f hi;have hlt:i<xs.length:=by rw[h2];exact (Array.getElem?_eq_some_iff.1 hi).1
 rw[List.getElem?_eq_getElem hlt] at this;exact⟨n,_,this⟩
theorem ZPW {α β:Type}{f:α->Option β}:∀{l:List α}{r:List β},l.mapM f=some r->l.length=r.length/\∀(i:Nat) a,l[i]?=some a->f a=r[i]?:=by
 intro l
 induction l with
 | nil=>intro r h;simp at h;subst h;exact⟨rfl,fun i a h=>by simp at h⟩
 | cons x l ih =>
  intro r h;rw[List.mapM_cons] at h
  cases hx:f x with
  | none=>rw[hx] at h;cases h
  | some y =>
   rw[hx] at h
   cases hl:l.mapM f with
   | none=>rw[hl] at h;cases h
   | some ys =>
    rw[hl] at h;cases h;obtain⟨h1,h2⟩:=ih hl;refine⟨by simp[h1],fun i a hi=>?_⟩
    cases i with
    | zero=>simp at hi;subst hi;simpa using hx
    | succ i=>simp at hi ⊢;exact h2 i a hi
theorem ZKi {x:Addr}{n:Nat}{row:List Value}(h:W.cells? 0 x n=some row)(hn:0<n):x.spot=none/\∃c t fz,W.heap[x.block]?=some (.cells c t fz)/\cut c.toList x.off n=some row:=by
 unfold World.cells? at h;rw[if_pos (Nat.zero_le _)] at h;obtain⟨h1,h2⟩:=ZPW h;have h1':row.length=n:=by simpa using h1.symm
 have key:∀i,i<n->W.cell? (x.add i)=row[i]?:=fun i hi=>h2 i i (by simp[hi]);have k0:=key 0 hn;have e0:x.add 0=x:=by simp[Addr.add]
 rw[e0,List.getElem?_eq_getElem (by omega)] at k0;unfold World.cell? at k0
 cases hb:W.heap[x.block]? with
 | none=>rw[hb] at k0;cases k0
 | some ob =>
  rw[hb] at k0
  cases ob with
  | cells c t fz =>
   simp only at k0;have hsp:x.spot=none:=by
    cases hs:x.spot with
    | none=>rfl
    | some y=>rw[hs] at k0;simp at k0
   refine⟨hsp,c,t,fz,rfl,?_⟩;have hget:∀i,i<n->c.toList[x.off+i]?=row[i]?:=by
    intro i hi;have:=key i hi;rw[<-this];unfold World.cell?;have hblk:(x.add i).block=x.block:=by unfold Addr.add;split <;> rfl
    have hspt:(x.add i).spot=none:=by unfold Addr.add;split <;> simp[hsp]
    have hoff:(x.add i).off=x.off+i:=by unfold Addr.add;split <;> simp_all
    rw[hblk,hb];simp only[hspt,hoff];simp
   have hlt:x.off+n<=c.toList.length:=by
    have:=hget (n-1) (by omega);rw[List.getElem?_eq_getElem (show n-1<row.length by omega)] at this;have:=(List.getElem?_eq_some_iff.1 this).1;omega
   unfold cut;have hb2:Nat.ble (Nat.add x.off n) c.toList.length=true:=Nat.ble_eq_true_of_le hlt;rw[hb2];simp only
   congr 1
   apply List.ext_getElem?;intro i;rw[List.getElem?_take]
   split
   ·rename_i hi
    rw[List.getElem?_drop];exact hget i hi
   ·rename_i hi
    rw[List.getElem?_eq_none (by omega)]
  | _=>cases k0
theorem ZSJ {b o lim len cap:Nat}(h:Nat.blt b lim=true):okv lim (.slice (some ⟨b,o,none⟩) len cap)=true:=by
 cases len <;> cases cap <;> first|rfl|exact h
theorem ZId (ht:P.underlying t=some (.slice e))(hz:0<P.cellsOf e)(h:Rd enc P W t cs):∃v a len cap,cs=[v]/\okv W.heap.size v=true/\nz v=.slice a len cap/\len<9223372036854775808 ∧
  ∀i,i<len->∃b o,a=some ⟨b,o,none⟩/\∃row c t fz,W.heap[b]?=some (.cells c t fz)/\cut c.toList (o+i*P.cellsOf e) (P.cellsOf e)=some row/\Rd enc P W e row:=by
 have h5:maxLen=9223372036854775807:=by decide
 obtain⟨m,x,hx⟩:=h
 rcases DataW.trod_slice ht hx with ⟨h1,_⟩|⟨a,len,cap,elems,rest,n,_,h1,_,_,hlc,hcm,hel,he,hr,_⟩
 ·exact⟨_,none,0,0,h1,rfl,rfl,by decide,fun i hi=>by omega⟩
 ·have hread:∀i,i<cap->∃row,W.cells? 0 (a.add (i*P.cellsOf e)) (P.cellsOf e)=some row/\Rd enc P W e row:=by
   intro i hi;have:∃y,(W.cells? 0 (a.add (i*P.cellsOf e)) (P.cellsOf e)).bind (DataW.trod enc P W 0 (fun _=>true) true n e)=some y:=by
    rcases Nat.lt_or_ge i len with g|g
    ·have:=he i g
     rw[List.getElem?_eq_getElem (by omega)] at this;exact⟨_,this⟩
    ·obtain⟨hr1,hr2⟩:=hr rfl
     have:=hr2 (i-len) (by omega);rw[List.getElem?_eq_getElem (by omega),show len+(i-len)=i by omega] at this;exact⟨_,this⟩
   obtain⟨y,hy⟩:=this
   cases hc:W.cells? 0 (a.add (i*P.cellsOf e)) (P.cellsOf e) with
   | none=>rw[hc] at hy;cases hy
   | some row=>rw[hc] at hy;exact⟨row,rfl,n,y,hy⟩
  by_cases hcap:cap=0
  ·have hlen:len=0:=by omega
   subst hcap;subst hlen;exact⟨_,some ⟨0,0,some 0⟩,0,0,h1,rfl,rfl,by decide,fun i hi=>by omega⟩
  ·obtain⟨row0,hc0,_⟩:=hread 0 (by omega)
   have e0:a.add (0*P.cellsOf e)=a:=by simp[Addr.add]
   rw[e0] at hc0;obtain⟨hsp,c,t',fz,hb,_⟩:=ZKi hc0 hz;obtain⟨b,o,sp⟩:=a;simp only at hsp hb;subst hsp;have hlt:b<W.heap.size:=(Array.getElem?_eq_some_iff.1 hb).1;have hne:¬(len=0/\cap=0):=fun h=>hcap h.2;refine⟨_,some ⟨b,o,none⟩,len,cap,h1,?_,?_,by omega,fun i hi=>⟨b,o,rfl,?_⟩⟩
   ·have hbl:Nat.blt b W.heap.size=true:=by rw[Nat.blt_eq];exact hlt
    exact ZSJ hbl
   ·unfold nz
    split
    ·rename_i hq;simp only[Value.slice.injEq] at hq;exact absurd ⟨hq.2.1,hq.2.2⟩ hne
    ·rfl
   ·obtain⟨row,hc,hrd⟩:=hread i (by omega)
    obtain⟨_,c1,t1,fz1,hb1,hcut⟩:=ZKi hc hz;have hblk:((⟨b,o,none⟩:Addr).add (i*P.cellsOf e)).block=b:=by unfold Addr.add;split <;> rfl
    have hoff:((⟨b,o,none⟩:Addr).add (i*P.cellsOf e)).off=o+i*P.cellsOf e:=by unfold Addr.add;split <;> simp_all
    rw[hblk] at hb1;rw[hoff] at hcut;exact⟨row,c1,t1,fz1,hb1,hcut,hrd⟩
theorem ZQh {b o n:Nat}{row:List Value}{c:Array Value}{t:TypeId}{fz:Nat×Nat}(hb:W.heap[b]?=some (.cells c t fz))(hc:cut c.toList o n=some row)(hok:row.all (okv W.heap.size)=true):ZB5 (ro W) b o n=some (row.map nz):=by
 unfold ZB5;rw[roH_get,hb];simp only[Option.map_some];unfold rdo;simp only[hc,hok]
theorem ZRl {b o:Nat}{v:Value}{c:Array Value}{t:TypeId}{fz:Nat×Nat}(hb:W.heap[b]?=some (.cells c t fz))(hc:cut c.toList o 1=some [v])(hok:okv W.heap.size v=true):ZAc (ro W) b o=some (nz v):=by
 have:=ZAR (k:=0) (v:=nz v) (ZQh hb hc (by simp[hok])) rfl
 simpa using this
theorem ZPE {α:Type}{R:Nat->α->Prop}{n:Nat}(h:∀i,i<n->∃x,R i x):∃l:List α,l.length=n/\∀i (hi:i<l.length),R i l[i]:=by
 induction n with
 | zero=>exact⟨[],rfl,fun i hi=>by simp at hi⟩
 | succ n ih =>
  obtain⟨l,h1,h2⟩:=ih fun i hi=>h i (by omega);obtain⟨x,hx⟩:=h n (by omega);refine⟨l++[x],by simp[h1],fun i hi=>?_⟩
  rcases Nat.lt_or_ge i l.length with g|g
  ·rw[List.getElem_append_left g];exact h2 i g
  ·have:i=n:=by simp at hi;omega
   subst this;subst h1
   simpa using hx
theorem ZOR {α:Type}{encA:α->Value}{Fit:α->Prop}(ht:P.underlying t=some (.slice e))(hz:P.cellsOf e=1)(hel:∀row,Rd enc P W e row->∃x v,row=[v]/\okv W.heap.size v=true/\nz v=encA x/\Fit x)(h:Rd enc P W t cs) :
  ∃v a l cap,cs=[v]/\okv W.heap.size v=true/\nz v=.slice a l.length cap/\ZBL encA (ro W) a l/\Len l/\∀x∈l,Fit x:=by
 obtain⟨v,a,len,cap,h1,h2,h3,h4,h5⟩:=ZId ht (by omega) h;have:∀i,i<len->∃x,(∃b o,a=some ⟨b,o,none⟩/\ZAc (ro W) b (o+i*1)=some (encA x))/\Fit x:=by
  intro i hi;obtain⟨b,o,ha,row,c,t',fz,hb,hc,hrd⟩:=h5 i hi;obtain⟨x,v,rfl,ok,hx,hf⟩:=hel row hrd;rw[hz] at hc;exact⟨x,⟨b,o,ha,by rw[<-hx];exact ZRl hb hc ok⟩,hf⟩
 obtain⟨l,hl,hR⟩:=ZPE this;subst hl;refine⟨v,a,l,cap,h1,h2,h3,fun i hi=>?_,h4,fun x hx=>?_⟩
 ·obtain⟨⟨b,o,ha,hc⟩,_⟩:=hR i hi
  exact⟨b,o,none,ha,hc⟩
 ·obtain⟨i,hi,rfl⟩:=List.getElem_of_mem hx
  exact (hR i hi).2
theorem ZNw (ht:P.underlying t=some (.slice e))(he:P.underlying e=some (.int .i64))(hz:P.cellsOf e=1)(h:Rd enc P W t cs) :
  ∃v a l cap,cs=[v]/\okv W.heap.size v=true/\nz v=.slice a l.length cap/\ZBz (ro W) a l/\Len l/\∀x∈l,I64 x :=
 ZOR (encA:=i64) (Fit:=I64) ht hz (fun row hr=>by
  obtain⟨n,h1,h2⟩:=ZBZ he hr;exact⟨n,_,h1,rfl,rfl,h2⟩) h
theorem ZDf {α:Type}{R:Heap->List Value->α->Prop}{Fit:α->Prop}{k:Nat}(ht:P.underlying t=some (.slice e))(hz:P.cellsOf e=k)(hk:0<k)(hel:∀row,Rd enc P W e row->∃x,row.all (okv W.heap.size)=true/\R (ro W) (row.map nz) x/\Fit x)(h:Rd enc P W t cs) :
  ∃v a l cap,cs=[v]/\okv W.heap.size v=true/\nz v=.slice a l.length cap/\ZAN k R (ro W) a l/\Len l/\∀x∈l,Fit x:=by
 obtain⟨v,a,len,cap,h1,h2,h3,h4,h5⟩:=ZId ht (by omega) h;have:∀i,i<len->∃x,(∃b o,a=some ⟨b,o,none⟩/\∃row,ZB5 (ro W) b (o+i*k) k=some row/\R (ro W) row x)/\Fit x:=by
  intro i hi;obtain⟨b,o,ha,row,c,t',fz,hb,hc,hrd⟩:=h5 i hi;obtain⟨x,ok,hx,hf⟩:=hel row hrd;rw[hz] at hc;exact⟨x,⟨b,o,ha,_,ZQh hb hc ok,hx⟩,hf⟩
 obtain⟨l,hl,hR⟩:=ZPE this;subst hl;refine⟨v,a,l,cap,h1,h2,h3,fun i hi=>?_,h4,fun x hx=>?_⟩
 ·obtain⟨⟨b,o,ha,row,hc,hx⟩,_⟩:=hR i hi
  exact⟨b,o,none,ha,row,hc,hx⟩
 ·obtain⟨i,hi,rfl⟩:=List.getElem_of_mem hx
  exact (hR i hi).2
theorem ZLK {f:FuncId}{args:List Value}{args':Array Value}(hs:Sv P f args (ro W) (RetP fun v h'=>v=.bool true/\Ext (ro W) h'))(hv:VRL (idI W.heap.size) args args'.toList) :
  Calls P f args' W fun e W'=>e=.returned (.bool true)/\Unch W W':=by
 refine (hs.w (idI W.heap.size) W args' (ZR3 (Nat.le_refl _) (Nat.le_refl _)) hv).mono ?_;rintro en w' ⟨r,hR,hP⟩
 cases r with
 | ret v h' =>
  obtain⟨rfl,he⟩:=hR;obtain⟨ι',v',rfl,hvv,hr,ha⟩:=hP;cases hvv;exact⟨rfl,ZLX ha hr (Nat.le_refl _) ⟨he.1,he.2.1,he.2.2⟩⟩
 | pan v h'=>exact hR.elim
 | no=>exact hR.elim
theorem ZSN {v:Value}(h:okv W.heap.size v=true):VR (idI W.heap.size) (nz v) v:=ZJt (fun b hb=>⟨⟨b,0,0⟩,ZJW hb,rfl⟩) h
theorem ZOA {l:List Value}(h:l.all (okv W.heap.size)=true):VRL (idI W.heap.size) (l.map nz) l:=ZLg (fun b hb=>⟨⟨b,0,0⟩,ZJW hb,rfl⟩) h
end Go.Dw
namespace Go.Dw
open Go Go.Dx
variable {P:Program}{H:Type}{enc:TypeId×Value->H}{W:World}{cs:List Value}{t e:TypeId}
theorem ZOy (ht:P.underlying t=some (.slice e))(h:Rd enc P W t cs):∃v a len cap,cs=[v]/\nz v=.slice a len cap/\len<=cap:=by
 obtain⟨m,x,hx⟩:=h
 rcases DataW.trod_slice ht hx with ⟨h1,_⟩|⟨a,len,cap,elems,rest,n,_,h1,_,_,hlc,hcm,hel,he,hr,_⟩
 ·exact⟨_,none,0,0,h1,rfl,Nat.le_refl _⟩
 ·by_cases hne:len=0/\cap=0
  ·obtain⟨rfl,rfl⟩:=hne
   exact⟨_,some ⟨0,0,some 0⟩,0,0,h1,rfl,Nat.le_refl _⟩
  ·refine⟨_,some a,len,cap,h1,?_,hlc⟩
   unfold nz
   split
   ·rename_i hq;simp only[Value.slice.injEq] at hq;exact absurd ⟨hq.2.1,hq.2.2⟩ hne
   ·rfl
end Go.Dw
namespace Go.Dw
open Go.Dx Go.ChangeShapes Go.WideShapes Go.ChangeAt Go.RowKit
variable {H:Type}{enc:TypeId×Value->H}{P:Program}{W W':World}
theorem ZFV {T:TypeId->Prop}{sp:Nat->Bool}(K:Kids P T)(hz:∀t e,T t->P.underlying t=some (.slice e)->0<P.cellsOf e):∀{ts:List TypeId}{vs:List Value}{ds:List (DataW H)}{ps:List MemPlace},(∀t∈ts,T t)->DataW.TrodAll enc P W 0 (fun _=>true) true ts vs ds ps->(∀p∈ps,W.sameAt W' p)->(∀p∈ps,sp p.block=true)->DataW.TrodAll enc P W' 0 sp true ts vs ds ps
 | [],[],[],_,_,h,_,_=>h
 | t::ts,v::vs,d::ds,_,hT,⟨p,q,⟨n,h1⟩,h2,e⟩,hw,hs=>by
  subst e;refine⟨p,q,⟨n,DataW.trod_stays (x:=(d,p)) K (fun a b=>hz _ _ a b) (fun h=>by cases h) (hT t List.mem_cons_self) h1 (fun x hx=>hw x (List.mem_append_left _ hx)) (fun x hx=>hs x (List.mem_append_left _ hx))⟩,?_,rfl⟩;exact ZFV K hz (fun t ht=>hT t (List.mem_cons_of_mem _ ht)) h2 (fun x hx=>hw x (List.mem_append_right _ hx)) (fun x hx=>hs x (List.mem_append_right _ hx))
theorem ZOX (hu:Unch W W'):∀p:MemPlace,p.block<W.heap.size->W.sameAt W' p
 | .cell b off,hp=>by
  have:W'.heap[b]?=W.heap[b]?:=hu.same b hp;simp only[World.sameAt,World.cell?,this]
 | .map b,hp=>hu.same b hp
theorem ZNZ (u:Unch W W')(may:MemPlace->Prop):W.keptBut W' may:=by
 refine⟨u.os,u.out,fun i hi=>?_⟩;rw[u.same i hi]
 cases hq:W.heap[i]? with
 | none=>rfl
 | some o=>cases o <;> first|rfl|exact⟨rfl,rfl,rfl,fun _ _=>rfl⟩|exact .inr ⟨rfl,rfl⟩
theorem ZKk {f:Func}{s:ChangeSpec}{args:Array Value}{v:Value}{ds gs:List (DataW H)}{ZAi pa pv:List MemPlace}
  (hW:DataW.Whole enc P f.params.toList s.vars false W args.toList ds gs ZAi)
  (hres:∀(b:Nat) (sp:Nat->Bool) (hd:Bool),DataW.TrodAll enc P W' b sp hd f.resultTypes.toList (v.resultList f.resultTypes.size) (s.fn H (ds++gs)).results [])
  (hargs:∀sp:Nat->Bool,(∀p∈ZAi,sp p.block=true)->DataW.TrodAll enc P W' 0 sp true f.params.toList args.toList (s.fn H (ds++gs)).args pa)
  (hvars:∀sp:Nat->Bool,(∀p∈ZAi,sp p.block=true)->DataW.TrodVars enc P W' sp s.vars (s.fn H (ds++gs)).vars pv)
  (hu:Unch W W'):s.post enc P f false true false false W args v W':=by
 have hlt:=hW.lt;have hold:∀p∈ZAi,(fun b=>decide (b<W.heap.size)) p.block=true:=fun p hp=>by simpa using hlt p hp
 exact⟨ds,gs,ZAi,[],pa,pv,hW,hres _ _ _,hargs _ hold,hvars _ hold,ZNZ hu _,fun h=>nomatch h⟩
theorem ZNd {fn:Func}{s:ChangeSpec}{args:Array Value}{ds:List (DataW H)}{ZAi:List MemPlace}{T:TypeId->Prop}(K:Kids P T)(hz:∀t e,T t->P.underlying t=some (.slice e)->0<P.cellsOf e)(hT:∀t∈fn.params.toList,T t)
  (hW:DataW.Whole enc P fn.params.toList s.vars false W args.toList ds [] ZAi) (hv:s.vars=[]) (hres:(s.fn H (ds++[])).results=[.lit (.bool true)]) (hargs:(s.fn H (ds++[])).args=ds) (hvr:(s.fn H (ds++[])).vars=[])
  (hrt:fn.resultTypes=#[4]) (h4:P.underlying 4=some .bool) (hu:Unch W W'):s.post enc P fn false true false false W args (.bool true) W':=by
 have hW':=hW;obtain⟨p,q,hA,hV,rfl,_,_⟩:=hW;rw[hv] at hV;obtain⟨_,rfl⟩:=trodVars_none hV;rw[List.append_nil] at hW';refine ZKk (pa:=p) (pv:=[]) hW' (fun _ _ _=>?_) (fun sp hsp=>?_) (fun _ _=>?_) hu
 ·rw[hres,hrt];exact trodAll_cons_mk (shut_bool h4 _) trodAll_mk0
 ·rw[hargs]
  exact ZFV K hz hT hA (fun x hx=>ZOX hu x (hW'.lt x hx)) (fun x hx=>hsp x hx)
 ·rw[hv,hvr];exact rfl
end Go.Dw
