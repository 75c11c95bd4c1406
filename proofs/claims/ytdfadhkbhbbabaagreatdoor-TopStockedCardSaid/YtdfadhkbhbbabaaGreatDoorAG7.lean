/- DwZh: the logic: strings by their order, joined; rows that are compared. -/
import Derived.Sort.Walk0
import Derived.Laws.StructEq
import Derived.ChangeArms
import Derived.RowKit3
import Derived.Maps.RangeRun
import Derived.WalkKit
import Derived.ProofKit
import Derived.OpenShut
import Derived.Deep.DeepHandedRow
import Derived.ReadAgain
import Derived.ChangeStays
import Derived.Test.YtdfadhkbhbbabaaGreatDoorAG2
import Derived.Test.YtdfadhkbhbbabaaGreatDoorAG1
set_option linter.unusedVariables false
set_option linter.unusedSimpArgs false
namespace Go.Dw
open Go Go.Dx
variable {P:Program}{m:Mem}{h:Heap}{d:Option Tmp}{ty:TypeId}{pos:String}{af:Array Edge}{gu:Option (Nat×Bool)}
theorem ZHr {a b:List UInt8}:(decide (a<b) || decide (a=b))=!decide (b<a):=by
 rw[Bool.eq_iff_iff];simp only[Bool.or_eq_true,decide_eq_true_eq,Bool.not_eq_true',decide_eq_false_iff_not,List.not_lt]
 constructor
 ·rintro (h|h)
  ·exact List.le_of_lt h
  ·subst h;exact List.le_refl _
 ·intro h
  by_cases e:a=b
  ·exact .inr e
  ·exact .inl (Classical.byContradiction fun g=>e (List.le_antisymm h (List.not_lt.1 g)))
theorem ZSZ {t tz:TypeId}{x y:Operand}{a b:List UInt8}(hx:opk h m x=some (str a))(hy:opk h m y=some (str b)):Aop P ⟨d,.binOp .lss t x y tz,ty,pos,af,gu⟩ m h (.bool (decide (a<b))) h :=
 ZCm hx hy rfl rfl rfl fun w=>by
  simp[eqGuard,binOp,go_sem,Op.stringOp,Go.Proofs.bytesLess_eq]
theorem ZRb {t tz:TypeId}{x y:Operand}{a b:List UInt8}(hx:opk h m x=some (str a))(hy:opk h m y=some (str b)):Aop P ⟨d,.binOp .gtr t x y tz,ty,pos,af,gu⟩ m h (.bool (decide (b<a))) h :=
 ZCm hx hy rfl rfl rfl fun w=>by
  have e:(decide (a<b) || a == b)=!decide (b<a):=by rw[<-ZHr];congr 1;rw[Bool.eq_iff_iff];simp
  simp[eqGuard,binOp,go_sem,Op.stringOp,Go.Proofs.bytesLess_eq,e]
theorem ZSf {t tz:TypeId}{x y:Operand}{a b:List UInt8}(hx:opk h m x=some (str a))(hy:opk h m y=some (str b))(hl:a.length+b.length<9223372036854775808):Aop P ⟨d,.binOp .add t x y tz,ty,pos,af,gu⟩ m h (str (a++b)) h :=
 ZCm hx hy rfl rfl rfl fun w=>by
  have h1:¬(((⟨⟨a⟩⟩:ByteArray).size+(⟨⟨b⟩⟩:ByteArray).size:Nat):Int) > IntKind.i64.max:=by
   show ¬((a.length+b.length:Nat):Int) > 9223372036854775807
   omega
  have h2:(⟨⟨a⟩⟩:ByteArray)++⟨⟨b⟩⟩=⟨⟨a++b⟩⟩:=by
   apply ByteArray.ext;simp
  have h3:(a.length:Int)+b.length<=9223372036854775807:=by omega
  simp[eqGuard,binOp,go_sem,Op.stringOp,str,h1,h2,h3]
theorem ZNL {t tz:TypeId} {α:Type} [DecidableEq α](K:KeyK P t α){l l':List Value}{a b:α}(ha:K.enc a=.agg ⟨l⟩)(hb:K.enc b=.agg ⟨l'⟩)(hG:P.eqGuardType P.depth t=false){x y:Operand}(hx:opk h m x=some (K.enc a))(hy:opk h m y=some (K.enc b)) :
  Aop P ⟨d,.binOp .eql t x y tz,ty,pos,af,gu⟩ m h (.bool (decide (a=b))) h :=
 ZCm hx hy (K.flat a) (K.flat b) rfl fun w=>by
  have h1:=ZFw K.hks (K.eq a b) w;rw[ha,hb] at h1 ⊢;simp only[Sem.run_bind,run_eqGuard_agg _ _ _ _ _ _ _ hG,Result.andThen_ok];rw[run_eql_struct];have h2:(Op.equalIn 10000 t (.agg ⟨l⟩) (.agg ⟨l'⟩)).run P w=.ok (decide (a=b)) w:=h1;rw[h2];rfl
theorem ZQP {t tz:TypeId} {α:Type} [DecidableEq α](K:KeyK P t α){l l':List Value}{a b:α}(ha:K.enc a=.agg ⟨l⟩)(hb:K.enc b=.agg ⟨l'⟩)(hG:P.eqGuardType P.depth t=false){x y:Operand}(hx:opk h m x=some (K.enc a))(hy:opk h m y=some (K.enc b)) :
  Aop P ⟨d,.binOp .neq t x y tz,ty,pos,af,gu⟩ m h (.bool (decide (¬a=b))) h :=
 ZCm hx hy (K.flat a) (K.flat b) rfl fun w=>by
  have h1:=ZFw K.hks (K.eq a b) w;rw[ha,hb] at h1 ⊢;simp only[Sem.run_bind,run_eqGuard_agg _ _ _ _ _ _ _ hG,Result.andThen_ok];rw[run_neq_struct];have h2:(Op.equalIn 10000 t (.agg ⟨l⟩) (.agg ⟨l'⟩)).run P w=.ok (decide (a=b)) w:=h1;rw[h2,decide_not];rfl
section
variable {P:Program}{fr:Fr}{m:Mem}{ds:List ADef}{h:Heap}{Q:CQ}{ops:Array Oper}{l:List Oper}{d:Nat}{ty:TypeId}{pos:String}{af:Array Edge}{gu:Option (Nat×Bool)}
theorem ZRi {t:TypeId}{x:Operand}{s:List UInt8}(hg:gk ops.toList m gu=some true)(hlt:Nat.blt d fr.nt=true)(hu:P.underlying t=some .string)(hx:opk h m x=some (str s))
  (hk:∀h1,Ext h h1->WF h1->h1.get h.nx=some (.siter ⟨⟨s⟩⟩ 0)->h1.nx=h.nx+1->Wo P fr ops l (Dw.upd m d (.pointer (some ⟨h.nx,0,none⟩))) ds h1 Q):Wo P fr ops (⟨some d,.range t x,ty,pos,af,gu⟩::l) m ds h Q :=
 ZBC fun hw=>ZAV (v:=.pointer (some ⟨h.nx,0,none⟩)) (h1:=h.add (.siter ⟨⟨s⟩⟩ 0)) hg rfl rfl hlt (ZAe fun e hs=>by
  show ZIk P h e t x=_
  unfold ZIk;simp only[hu,ZAM hs hx]) (hk _ (Ext.add hw _) (hw.add _) Heap.get_add_same rfl)
theorem ZQo {x:Operand}{b n:Nat}{s:List UInt8}{d:Option Tmp}(hx:opk h m x=some (.pointer (some ⟨b,0,none⟩)))(hb:h.get b=some (.siter ⟨⟨s⟩⟩ n))(hn:¬n<s.length):Aop P ⟨d,.next x true,ty,pos,af,gu⟩ m h (.tuple ⟨[.bool false]⟩) h :=
 ZAe fun e hs=>by
  show ZLC h e x true=_
  unfold ZLC;have hl:Nat.blt n s.length=false:=by
   cases q:Nat.blt n s.length
   ·rfl
   ·exact absurd (Nat.le_of_ble_eq_true q) hn
  simp only[ZAM hs hx,hb]
  show (@Bool.casesOn (fun _=>AR) (Nat.blt n s.length) (.ok (.tuple ⟨[.bool false]⟩) h) _)=_
  rw[hl]
theorem ZUq {x:Operand}{b n c k:Nat}{s:List UInt8}{d:Option Tmp}(hx:opk h m x=some (.pointer (some ⟨b,0,none⟩)))(hb:h.get b=some (.siter ⟨⟨s⟩⟩ n))(hn:n<s.length)(hd:Utf8.decode ⟨⟨s⟩⟩ n=(c,k)):Aop P ⟨d,.next x true,ty,pos,af,gu⟩ m h (.tuple ⟨[.bool true,i64 n,.int .i32 c]⟩) (h.set b (.siter ⟨⟨s⟩⟩ (n+k))) :=
 ZAe fun e hs=>by
  show ZLC h e x true=_
  unfold ZLC;have hl:Nat.blt n s.length=true:=Nat.ble_eq_true_of_le hn;simp only[ZAM hs hx,hb]
  show (@Bool.casesOn (fun _=>AR) (Nat.blt n s.length) (.ok (.tuple ⟨[.bool false]⟩) h) _)=_
  rw[hl]
  show (match Utf8.decode ⟨⟨s⟩⟩ n with|(c,width)=>_)=_
  rw[hd]
  rfl
end
theorem ZOS {s:List UInt8}{n:Nat}(hn:n<s.length)(h:s[n].toNat<128):Utf8.decode ⟨⟨s⟩⟩ n=(s[n].toNat,1):=by
 have e:((⟨⟨s⟩⟩:ByteArray).get! (n+0))=s[n]:=by
  show (⟨s⟩:Array UInt8)[n+0]! = _
  simp[hn]
 unfold Utf8.decode;simp only[e];rw[if_pos h]
theorem ZMl {s:List UInt8}{n:Nat}(hn:n<s.length)(h:¬s[n].toNat<128):128<=(Utf8.decode ⟨⟨s⟩⟩ n).1:=by
 have e:((⟨⟨s⟩⟩:ByteArray).get! (n+0))=s[n]:=by
  show (⟨s⟩:Array UInt8)[n+0]! = _
  simp[hn]
 have hr:128<=Utf8.runeError:=by decide
 unfold Utf8.decode;simp only[e];rw[if_neg h]
 split
 ·split
  ·assumption
  ·exact hr
 split
 ·split
  ·rename_i q
   simp only[Bool.and_eq_true,decide_eq_true_eq] at q
   show 128<=_
   have:=q.1;omega
  ·exact hr
 split
 ·split
  ·rename_i q
   simp only[Bool.and_eq_true,decide_eq_true_eq] at q
   show 128<=_
   have:=q.1;omega
  ·exact hr
 exact hr
end Go.Dw
namespace Go.Dx
variable {P:Program}{V:Nat->Nat->Bool}
noncomputable def roT (lim:Nat):List Obj->Nat->Tr AO->Tr AO
 | [],_,t=>t
 | o::l,k,t=>roT lim l (k+1) (tset t k (some (.ro lim o)))
theorem ZUL (lim:Nat):∀(l:List Obj)(k:Nat)(t:Tr AO)(b:Nat),tget (roT lim l k t) b=if k<=b/\b<k+l.length then (l[b-k]?).map (.ro lim) else tget t b:=by
 intro l
 induction l with
 | nil=>intro k t b;simp only[roT,List.length_nil];rw[if_neg (by omega)]
 | cons o l ih =>
  intro k t b;rw[roT,ih]
  by_cases h1:k+1<=b/\b<k+1+l.length
  ·rw[if_pos h1,if_pos (by simp;omega)]
   have:b-k=(b-(k+1))+1:=by omega
   rw[this,List.getElem?_cons_succ]
  ·rw[if_neg h1]
   by_cases h2:b=k
   ·subst h2;rw[ZAm,if_pos (by simp)];simp
   ·rw[ZCE _ _ _ _ h2,if_neg (by simp;omega)]
noncomputable def roH (lim gl:Nat)(w:World):Heap:=⟨roT lim w.heap.toList 0 .e,lim,gl⟩
theorem ZKF (lim gl:Nat)(w:World)(b:Nat):(roH lim gl w).get b=(w.heap[b]?).map (.ro lim):=by
 show tget (roT lim w.heap.toList 0 .e) b=_
 rw[ZUL]
 by_cases h:b<w.heap.size
 ·rw[if_pos (by simpa using h)];simp
 ·rw[if_neg (by simpa using h),ZTT];simp[Array.getElem?_eq_none (Nat.le_of_not_lt h)]
def idI (lim:Nat):Iota:=fun b=>if b<lim then some ⟨b,0,0⟩ else none
theorem ZL2 {lim b:Nat}(h:b<lim):idI lim b=some ⟨b,0,0⟩:=if_pos h
theorem ZU1 {lim gl:Nat}{w:World}(hs:w.heap.size<=lim)(hg:gl<=lim):HR (idI lim) (roH lim gl w) w.heap where
 obj:=fun b o hb=>by
  rw[ZKF] at hb
  cases hq:w.heap[b]? with
  | none=>rw[hq] at hb;cases hb
  | some x =>
   rw[hq] at hb;cases hb;have hlt:b<w.heap.size:=(Array.getElem?_eq_some_iff.1 hq).1;refine⟨⟨b,0,0⟩,x,ZL2 (by omega),hq,?_⟩;simp only[OR];exact⟨trivial,fun c hc=>⟨⟨c,0,0⟩,ZL2 hc,rfl⟩⟩
 inj:=fun b b' o o' bi bi' h1 h2 i1 i2 heq=>by
  unfold idI at i1 i2
  split at i1
  ·split at i2
   ·cases i1;cases i2;exact heq
   ·cases i2
  ·cases i1
 fresh:=fun b bi hb=>by
  unfold idI at hb
  split at hb
  ·assumption
  ·cases hb
 glo:=fun g bi _ hb=>by
  unfold idI at hb
  split at hb
  ·cases hb;rfl
  ·cases hb
 gn:=hg
def Ext (h h':Heap):Prop:=(∀b o,h.get b=some o->h'.get b=some o)/\h.nx<=h'.nx/\h'.gl=h.gl
theorem Ext.refl (h:Heap):Ext h h:=⟨fun _ _ x=>x,Nat.le_refl _,rfl⟩
theorem Ext.trans {h h1 h2:Heap}(a:Ext h h1)(b:Ext h1 h2):Ext h h2:=⟨fun c o x=>b.1 c o (a.1 c o x),Nat.le_trans a.2.1 b.2.1,b.2.2.trans a.2.2⟩
theorem ZL7 {lim gl:Nat}{w w':World} {ι':Iota}{h':Heap}(ha:Adv (idI lim) (roH lim gl w) w ι' h' w')(hr:HR ι' h' w'.heap)(hs:w.heap.size<=lim)(he:Ext (roH lim gl w) h'):Unch w w':=by
 refine⟨ha.sz,fun c hc=>?_,ha.os,ha.out⟩;obtain⟨x,hx⟩:∃x,w.heap[c]?=some x:=⟨_,Array.getElem?_eq_getElem hc⟩;obtain⟨bi,o',i1,hw,ho⟩:=hr.obj c (.ro lim x) (he.1 _ _ (by rw[ZKF,hx];rfl));have i2:=ha.sub c ⟨c,0,0⟩ (ZL2 (by omega));rw[i2] at i1;cases i1;simp only[OR] at ho;rw[hw,hx,ho.1]
end Go.Dx
namespace Go.Dw
open Go.Dx
variable {H:Type}{enc:TypeId×Value->H}{P:Program}{W:World}{t e:TypeId}{cs:List Value}
noncomputable abbrev ro (W:World):Heap:=roH W.heap.size W.heap.size W
def Rd (enc:TypeId×Value->H)(P:Program)(W:World)(t:TypeId)(cs:List Value):Prop:=∃n x,DataW.trod enc P W 0 (fun _=>true) true n t cs=some x
theorem ZDP (ht:P.underlying t=some (.int .i64))(h:Rd enc P W t cs):∃n,cs=[i64 n]/\I64 n:=by
 obtain⟨m,x,hx⟩:=h;obtain⟨n,h1,_,h3⟩:=DataW.trod_int ht hx;refine⟨n,h1,?_⟩;simp[Lit.wf] at h3;have h4:IntKind.i64.min = -9223372036854775808:=by decide
 have h5:IntKind.i64.max=9223372036854775807:=by decide
 omega
theorem ZLg (ht:P.underlying t=some .string)(h:Rd enc P W t cs):∃s:List UInt8,cs=[str s]/\Len s:=by
 obtain⟨m,x,hx⟩:=h;obtain⟨⟨⟨s⟩⟩,h1,_,h3⟩:=DataW.trod_string ht hx;refine⟨s,h1,?_⟩;have:s.length<=maxLen:=h3;have h5:maxLen=9223372036854775807:=by decide
 omega
theorem ZQj (ht:P.underlying t=some .bool)(h:Rd enc P W t cs):∃b,cs=[.bool b]:=by
 obtain⟨m,x,hx⟩:=h;obtain⟨b,h1,_⟩:=DataW.trod_bool ht hx;exact⟨b,h1⟩
theorem ZDT {fs:Array Field}(ht:P.underlying t=some (.struct fs))(h:Rd enc P W t cs):cs.length=P.cellsOf t/\∀(i:Nat)(f:Field),fs[i]?=some f->Rd enc P W f.type ((cs.drop f.offset).take (P.cellsOf f.type)):=by
 obtain⟨m,x,hx⟩:=h;obtain⟨xs,n,_,_,h1,h2,h3⟩:=DataW.trod_struct ht hx;refine⟨h1,fun i f hi=>?_⟩;have:=h3 i f hi;have hlt:i<xs.length:=by rw[h2];exact (Array.getElem?_eq_some_iff.1 hi).1
 rw[List.getElem?_eq_getElem hlt] at this;exact⟨n,_,this⟩
theorem ZSK {α β:Type}{f:α->Option β}:∀{l:List α}{r:List β},l.mapM f=some r->l.length=r.length/\∀(i:Nat) a,l[i]?=some a->f a=r[i]?:=by
 intro l
 induction l with
 | nil=>intro r h;simp at h;subst h;exact⟨rfl,fun i a h=>by simp at h⟩
 | cons x l ih =>
  intro r h;rw[List.mapM_cons] at h
  cases hx:f x with
  | none=>rw[hx] at h;cases h
  | some y =>
   rw[hx] at h
   cases hl:l.mapM f with
   | none=>rw[hl] at h;cases h
   | some ys =>
    rw[hl] at h;cases h;obtain⟨h1,h2⟩:=ih hl;refine⟨by simp[h1],fun i a hi=>?_⟩
    cases i with
    | zero=>simp at hi;subst hi;simpa using hx
    | succ i=>simp at hi ⊢;exact h2 i a hi
theorem ZLQ {x:Addr}{n:Nat}{row:List Value}(h:W.cells? 0 x n=some row)(hn:0<n):x.spot=none/\∃c t fz,W.heap[x.block]?=some (.cells c t fz)/\cut c.toList x.off n=some row:=by
 unfold World.cells? at h;rw[if_pos (Nat.zero_le _)] at h;obtain⟨h1,h2⟩:=ZSK h;have h1':row.length=n:=by simpa using h1.symm
 have key:∀i,i<n->W.cell? (x.add i)=row[i]?:=fun i hi=>h2 i i (by simp[hi]);have k0:=key 0 hn;have e0:x.add 0=x:=by simp[Addr.add]
 rw[e0,List.getElem?_eq_getElem (by omega)] at k0;unfold World.cell? at k0
 cases hb:W.heap[x.block]? with
 | none=>rw[hb] at k0;cases k0
 | some ob =>
  rw[hb] at k0
  cases ob with
  | cells c t fz =>
   simp only at k0;have hsp:x.spot=none:=by
    cases hs:x.spot with
    | none=>rfl
    | some y=>rw[hs] at k0;simp at k0
   refine⟨hsp,c,t,fz,rfl,?_⟩;have hget:∀i,i<n->c.toList[x.off+i]?=row[i]?:=by
    intro i hi;have:=key i hi;rw[<-this];unfold World.cell?;have hblk:(x.add i).block=x.block:=by unfold Addr.add;split <;> rfl
    have hspt:(x.add i).spot=none:=by unfold Addr.add;split <;> simp[hsp]
    have hoff:(x.add i).off=x.off+i:=by unfold Addr.add;split <;> simp_all
    rw[hblk,hb];simp only[hspt,hoff];simp
   have hlt:x.off+n<=c.toList.length:=by
    have:=hget (n-1) (by omega);rw[List.getElem?_eq_getElem (show n-1<row.length by omega)] at this;have:=(List.getElem?_eq_some_iff.1 this).1;omega
   unfold cut;have hb2:Nat.ble (Nat.add x.off n) c.toList.length=true:=Nat.ble_eq_true_of_le hlt;rw[hb2];simp only
   congr 1
   apply List.ext_getElem?;intro i;rw[List.getElem?_take]
   split
   ·rename_i hi
    rw[List.getElem?_drop];exact hget i hi
   ·rename_i hi
    rw[List.getElem?_eq_none (by omega)]
  | _=>cases k0
theorem ZUn {b o lim len cap:Nat}(h:Nat.blt b lim=true):okv lim (.slice (some ⟨b,o,none⟩) len cap)=true:=by
 cases len <;> cases cap <;> first|rfl|exact h
theorem ZSn (ht:P.underlying t=some (.slice e))(hz:0<P.cellsOf e)(h:Rd enc P W t cs):∃v a len cap,cs=[v]/\okv W.heap.size v=true/\nz v=.slice a len cap/\len<9223372036854775808 ∧
  ∀i,i<len->∃b o,a=some ⟨b,o,none⟩/\∃row c t fz,W.heap[b]?=some (.cells c t fz)/\cut c.toList (o+i*P.cellsOf e) (P.cellsOf e)=some row/\Rd enc P W e row:=by
 have h5:maxLen=9223372036854775807:=by decide
 obtain⟨m,x,hx⟩:=h
 rcases DataW.trod_slice ht hx with ⟨h1,_⟩|⟨a,len,cap,elems,rest,n,_,h1,_,_,hlc,hcm,hel,he,hr,_⟩
 ·exact⟨_,none,0,0,h1,rfl,rfl,by decide,fun i hi=>by omega⟩
 ·have hread:∀i,i<cap->∃row,W.cells? 0 (a.add (i*P.cellsOf e)) (P.cellsOf e)=some row/\Rd enc P W e row:=by
   intro i hi;have:∃y,(W.cells? 0 (a.add (i*P.cellsOf e)) (P.cellsOf e)).bind (DataW.trod enc P W 0 (fun _=>true) true n e)=some y:=by
    rcases Nat.lt_or_ge i len with g|g
    ·have:=he i g
     rw[List.getElem?_eq_getElem (by omega)] at this;exact⟨_,this⟩
    ·obtain⟨hr1,hr2⟩:=hr rfl
     have:=hr2 (i-len) (by omega);rw[List.getElem?_eq_getElem (by omega),show len+(i-len)=i by omega] at this;exact⟨_,this⟩
   obtain⟨y,hy⟩:=this
   cases hc:W.cells? 0 (a.add (i*P.cellsOf e)) (P.cellsOf e) with
   | none=>rw[hc] at hy;cases hy
   | some row=>rw[hc] at hy;exact⟨row,rfl,n,y,hy⟩
  by_cases hcap:cap=0
  ·have hlen:len=0:=by omega
   subst hcap;subst hlen;exact⟨_,some ⟨0,0,some 0⟩,0,0,h1,rfl,rfl,by decide,fun i hi=>by omega⟩
  ·obtain⟨row0,hc0,_⟩:=hread 0 (by omega)
   have e0:a.add (0*P.cellsOf e)=a:=by simp[Addr.add]
   rw[e0] at hc0;obtain⟨hsp,c,t',fz,hb,_⟩:=ZLQ hc0 hz;obtain⟨b,o,sp⟩:=a;simp only at hsp hb;subst hsp;have hlt:b<W.heap.size:=(Array.getElem?_eq_some_iff.1 hb).1;have hne:¬(len=0/\cap=0):=fun h=>hcap h.2;refine⟨_,some ⟨b,o,none⟩,len,cap,h1,?_,?_,by omega,fun i hi=>⟨b,o,rfl,?_⟩⟩
   ·have hbl:Nat.blt b W.heap.size=true:=by rw[Nat.blt_eq];exact hlt
    exact ZUn hbl
   ·unfold nz
    split
    ·rename_i hq;simp only[Value.slice.injEq] at hq;exact absurd ⟨hq.2.1,hq.2.2⟩ hne
    ·rfl
   ·obtain⟨row,hc,hrd⟩:=hread i (by omega)
    obtain⟨_,c1,t1,fz1,hb1,hcut⟩:=ZLQ hc hz;have hblk:((⟨b,o,none⟩:Addr).add (i*P.cellsOf e)).block=b:=by unfold Addr.add;split <;> rfl
    have hoff:((⟨b,o,none⟩:Addr).add (i*P.cellsOf e)).off=o+i*P.cellsOf e:=by unfold Addr.add;split <;> simp_all
    rw[hblk] at hb1;rw[hoff] at hcut;exact⟨row,c1,t1,fz1,hb1,hcut,hrd⟩
theorem ZUp {b o n:Nat}{row:List Value}{c:Array Value}{t:TypeId}{fz:Nat×Nat}(hb:W.heap[b]?=some (.cells c t fz))(hc:cut c.toList o n=some row)(hok:row.all (okv W.heap.size)=true):ZAw (ro W) b o n=some (row.map nz):=by
 unfold ZAw;rw[ZKF,hb];simp only[Option.map_some];unfold rdo;simp only[hc,hok]
theorem ZT0 {α:Type}{R:Nat->α->Prop}{n:Nat}(h:∀i,i<n->∃x,R i x):∃l:List α,l.length=n/\∀i (hi:i<l.length),R i l[i]:=by
 induction n with
 | zero=>exact⟨[],rfl,fun i hi=>by simp at hi⟩
 | succ n ih =>
  obtain⟨l,h1,h2⟩:=ih fun i hi=>h i (by omega);obtain⟨x,hx⟩:=h n (by omega);refine⟨l++[x],by simp[h1],fun i hi=>?_⟩
  rcases Nat.lt_or_ge i l.length with g|g
  ·rw[List.getElem_append_left g];exact h2 i g
  ·have:i=n:=by simp at hi;omega
   subst this;subst h1
   simpa using hx
theorem ZJa {α:Type}{R:Heap->List Value->α->Prop}{Fit:α->Prop}{k:Nat}(ht:P.underlying t=some (.slice e))(hz:P.cellsOf e=k)(hk:0<k)(hel:∀row,Rd enc P W e row->∃x,row.all (okv W.heap.size)=true/\R (ro W) (row.map nz) x/\Fit x)(h:Rd enc P W t cs) :
  ∃v a l cap,cs=[v]/\okv W.heap.size v=true/\nz v=.slice a l.length cap/\ZBO k R (ro W) a l/\Len l/\∀x∈l,Fit x:=by
 obtain⟨v,a,len,cap,h1,h2,h3,h4,h5⟩:=ZSn ht (by omega) h;have:∀i,i<len->∃x,(∃b o,a=some ⟨b,o,none⟩/\∃row,ZAw (ro W) b (o+i*k) k=some row/\R (ro W) row x)/\Fit x:=by
  intro i hi;obtain⟨b,o,ha,row,c,t',fz,hb,hc,hrd⟩:=h5 i hi;obtain⟨x,ok,hx,hf⟩:=hel row hrd;rw[hz] at hc;exact⟨x,⟨b,o,ha,_,ZUp hb hc ok,hx⟩,hf⟩
 obtain⟨l,hl,hR⟩:=ZT0 this;subst hl;refine⟨v,a,l,cap,h1,h2,h3,fun i hi=>?_,h4,fun x hx=>?_⟩
 ·obtain⟨⟨b,o,ha,row,hc,hx⟩,_⟩:=hR i hi
  exact⟨b,o,none,ha,row,hc,hx⟩
 ·obtain⟨i,hi,rfl⟩:=List.getElem_of_mem hx
  exact (hR i hi).2
theorem ZMM {f:FuncId}{args:List Value}{args':Array Value}(hs:Sv P f args (ro W) (RetP fun v h'=>v=.bool true/\Ext (ro W) h'))(hv:VRL (idI W.heap.size) args args'.toList) :
  Calls P f args' W fun e W'=>e=.returned (.bool true)/\Unch W W':=by
 refine (hs.w (idI W.heap.size) W args' (ZU1 (Nat.le_refl _) (Nat.le_refl _)) hv).mono ?_;rintro en w' ⟨r,hR,hP⟩
 cases r with
 | ret v h' =>
  obtain⟨rfl,he⟩:=hR;obtain⟨ι',v',rfl,hvv,hr,ha⟩:=hP;cases hvv;exact⟨rfl,ZL7 ha hr (Nat.le_refl _) ⟨he.1,he.2.1,he.2.2⟩⟩
 | pan v h'=>exact hR.elim
 | no=>exact hR.elim
theorem ZVL {v:Value}(h:okv W.heap.size v=true):VR (idI W.heap.size) (nz v) v:=ZLq (fun b hb=>⟨⟨b,0,0⟩,ZL2 hb,rfl⟩) h
theorem ZT2 {l:List Value}(h:l.all (okv W.heap.size)=true):VRL (idI W.heap.size) (l.map nz) l:=ZNH (fun b hb=>⟨⟨b,0,0⟩,ZL2 hb,rfl⟩) h
end Go.Dw
namespace Go.Dw
open Go Go.Dx
variable {P:Program}
theorem ZU3 {z:Nat}{t el:TypeId}{b n k:Nat}{sp:Option Nat}{kj:IntKind}(ht:P.underlying t=some (.slice el))(hz:tsz P el=some (z+1))(hsp:sp=none\/sp=some (z+1))(hk:k<=n):∃c',k<=c'/\∀{h:Heap}{m:Mem}{d:Option Tmp}{ty:TypeId}{pos:String}{af:Array Edge}{gu:Option (Nat×Bool)}{x i:Operand},opk h m x=some (.slice (some ⟨b,0,sp⟩) n n)->opk h m i=some (.int kj (k:Int))->Aop P ⟨d,.slice t x none (some i) none,ty,pos,af,gu⟩ m h (.slice (some ⟨b,0,sp⟩) k c') h:=by
 refine⟨n,hk,fun {h m d ty pos af gu x i} hx hi=>?_⟩
 rcases hsp with rfl|rfl
 ·exact ZHa ht hz hx hi rfl hk
 ·refine ZAe fun e hs=>?_
  show ZDB P _ h e t x none (some i) none=_
  unfold ZDB;have c4:sb n n none (some (.int kj (k:Int))) none=some (0,k,n):=ZVs hk;have:ZCY P t (.slice (some ⟨b,0,some (z+1)⟩) n n) none (some (.int kj (k:Int))) none=some (.slice (some ⟨b,0,some (z+1)⟩) k n):=by
   have h1:Nat.blt 0 (z+1)=true:=rfl;have h2:Nat.beq (z+1) (z+1)=true:=Nat.beq_refl _;unfold ZCY;rw[ht];simp only;rw[hz,c4];simp only[h1,h2]
   rfl
  simp only[ZAM hs hx,opvo,ZAM hs hi,this]
theorem ZJ5 {z:Nat}{t el:TypeId}{b n k:Nat}{sp:Option Nat}{kj:IntKind}(ht:P.underlying t=some (.slice el))(hz:tsz P el=some (z+1))(hsp:sp=none\/sp=some (z+1))(hk:k<=n):∃a' c',(k<n->∃o,a'=some ⟨b,o,sp⟩/\o=k*(z+1))/\∀{h:Heap}{m:Mem}{d:Option Tmp}{ty:TypeId}{pos:String}{af:Array Edge}{gu:Option (Nat×Bool)}{x i:Operand},opk h m x=some (.slice (some ⟨b,0,sp⟩) n n)->opk h m i=some (.int kj (k:Int))->Aop P ⟨d,.slice t x (some i) none none,ty,pos,af,gu⟩ m h (.slice a' (n-k) c') h:=by
 have c5:sb n n (some (.int kj (k:Int))) none none=some (k,n,n):=ZU5 hk;have hsl:∃a' c',(k<n->∃o,a'=some ⟨b,o,sp⟩/\o=k*(z+1))/\ZCY P t (.slice (some ⟨b,0,sp⟩) n n) (some (.int kj (k:Int))) none none=some (.slice a' (n-k) c'):=by
  rcases hsp with rfl|rfl
  ·refine⟨some ⟨b,match Nat.beq n k with|true=>0|false=>0+k*(z+1),none⟩,n-k,fun hlt=>?_,?_⟩
   ·have hq:Nat.beq n k=false:=by
     cases hq:Nat.beq n k with
     | false=>rfl
     | true=>have:=Nat.eq_of_beq_eq_true hq;omega
    rw[hq];exact⟨_,rfl,Nat.zero_add _⟩
   ·unfold ZCY
    rw[ht];simp only;rw[hz,c5];simp only;cases Nat.beq n k <;> rfl
  ·have hbz:Nat.beq (z+1) (z+1)=true:=Nat.beq_refl _
   have hb0:Nat.blt 0 (z+1)=true:=rfl
   cases k with
   | zero =>
    refine⟨some ⟨b,0,some (z+1)⟩,n,fun _=>⟨0,rfl,(Nat.zero_mul _).symm⟩,?_⟩;unfold ZCY;rw[ht];simp only;rw[hz,c5];simp only[hbz,hb0]
    rfl
   | succ k =>
    rcases Nat.lt_or_ge (k+1) n with h1|h1
    ·refine⟨some ⟨b,0+(k+1)*(z+1),some (z+1)⟩,n-(k+1),fun _=>⟨_,rfl,Nat.zero_add _⟩,?_⟩
     have hbl:Nat.blt (k+1) n=true:=by rw[Nat.blt_eq];exact h1
     unfold ZCY;rw[ht];simp only;rw[hz,c5];simp only[hbz,hb0,hbl]
     rfl
    ·obtain rfl:n=k+1:=by omega
     refine⟨some ⟨b,0,some 0⟩,0,fun h2=>absurd h2 (by omega),?_⟩;have hbl:Nat.blt (k+1) (k+1)=false:=by
      cases hq:Nat.blt (k+1) (k+1) with
      | false=>rfl
      | true=>rw[Nat.blt_eq] at hq;omega
     have hb2:Nat.beq (k+1) (k+1)=true:=Nat.beq_refl _;unfold ZCY;rw[ht];simp only;rw[hz,c5];simp only[hbz,hb0,hbl,hb2,Nat.sub_self]
     rfl
 obtain⟨a',c',h1,h2⟩:=hsl;refine⟨a',c',h1,fun {h m d ty pos af gu x i} hx hi=>ZAe fun e hs=>?_⟩
 show ZDB P _ h e t x (some i) none none=_
 unfold ZDB;simp only[ZAM hs hx,opvo,ZAM hs hi,h2]
end Go.Dw
namespace Go.Dw
open Go.Dx
variable {P:Program}
section
variable {fr:Fr}{m:Mem}{ds:List ADef}{h:Heap}{Q:CQ}{ops:Array Oper}{lo:List Oper}{ty:TypeId}{pos:String}{af:Array Edge}{gu:Option (Nat×Bool)}
variable {t:TypeId} {α:Type} [DecidableEq α](K:KeyK P t α)
theorem ZGB {h0:Heap}{I:List It}{c:Call}{tm el:TypeId}{ts:List TypeId}{x y:Operand}{b:Nat}{l:List (α×Value)}{k:α}(hw0:WF h0)(he0:Ext h0 h)(hg:gk ops.toList m gu=some true)(hc:c.callee=.builtin .delete)(hargs:c.args=#[x,y])(hat:c.argTypes.toList=tm::ts)(hu:P.underlying tm=some (.map t el))(hx:opk h m x=some (.map (some b)))(hO:Own h0 h (mapI K b l::I))(hy:opk h m y=some (K.enc k))
  (hk:∀h1,WF h1->Own h0 h1 (mapI K b (delK k l)::I)->Ext h0 h1->Exb (fun c=>c=b) h h1->Wo P fr ops lo m ds h1 Q):Wo P fr ops (⟨none,.call c,ty,pos,af,gu⟩::lo) m ds h Q :=
 ZBC fun hw=>ZPZ K hg hc hargs hat hu hx hO.p1 hy fun h1 o hU hm=>ZBC fun hw1=>hk h1 hw1 (hO.put hw he0.2.1 (Exb.ofUpd hU) hm fun _ hc=>.inl hc) (hO.grows (Exb.ofUpd hU) he0 hw0) (Exb.ofUpd hU)
end
variable {P:Program}
theorem Own.last {h0 h:Heap}{l r:List It}{x:It}(hO:Own h0 h (l++x::r)):Own h0 h (x::(l++r)):=hO.perm List.perm_middle
theorem Own.colls {h0 h:Heap}:∀{rs:List Nat}{I:List It},Own h0 h (rs.map (fun r=>loI r .defd)++I)->ZCr h0 h rs
 | [],_,_=>ZCr.nil _ _
 | r::rs,I,hO=>by
  rw[List.map_cons,List.cons_append] at hO;have ht:=Own.colls (rs:=rs) hO.tail;refine ht.cons hO.p1 (hO.lo _ List.mem_cons_self r rfl) fun hm=>?_;have hap:=(List.pairwise_cons.1 hO.ap).1 (loI r .defd) (List.mem_append_left _ (List.mem_map.2 ⟨r,hm,rfl⟩));exact hap r rfl rfl
theorem Own.del {h0 h:Heap}{rs:List Nat}{I:List It}(hO:Own h0 h (rs.map (fun r=>loI r .defd)++I)):Own h0 (delL h rs) I:=by
 have hI:Own h0 h I:=hO.sub (List.sublist_append_right _ _);have hap:=(List.pairwise_append.1 hO.ap).2.2;refine⟨fun x hx=>x.loc (fun c o hc hg=>?_) (hI.has x hx),hI.lo,hI.ap⟩;rw[ZFn fun hm=>hap (loI c .defd) (List.mem_map.2 ⟨c,hm,rfl⟩) x hx c rfl hc];exact hg
def ZPf (P:Program) {σ β:Type}(g:FuncId)(cap:List Value)(h0:Heap)(X:σ->List It)(L:List β)(enc:β->Value):Prop :=
 ∀(l:Nat) (hL:Heap) (J:List β->Heap->Prop),J [] hL->(∀pre h',J pre h'->Ext h0 h'/\∃s R,Own h0 h' (X s++R))->(∀pre h1 h2,J pre h1->Ext h1 h2->J pre h2) →
  (∀pre x post h',L=pre++x::post->J pre h'->Yd P l [enc x] h' (fun v h''=>v=.bool true/\J (pre++[x]) h''))->Sv P g (.func (.yield l) ⟨[]⟩ ⟨[]⟩::cap) hL (RetP fun _ h'=>J L h')
theorem ZDY {σ β:Type}{fr:Fr}{m:Mem}{ds:List ADef}{h h0:Heap}{Q:CQ}{f:Operand}{p:Tmp}{asg bd:Code}{g:FuncId}{cap:List Value}{X:σ->List It}{ok:List β->σ->Prop}{L:List β}{enc:β->Value}{q:Tmp}{cs:β->List Value}{el:TypeId}{op:Bool}{s0:σ}
  (hrd:fr.rd=none) (hf:opk h m f=some (.func (.func g) ⟨[]⟩ ⟨cap⟩)) (hb:ZAp P g=true) (hlt:Nat.blt p fr.nt=true)
  (hw0:WF h0) (hE:Ext h0 h) (hO:Own h0 h (X s0)) (hok:ok [] s0)
  (hit:ZPf P g cap h0 X L enc)
  (hasg:∀l x h',Wc P ⟨fr.fn,fr.nt,some l⟩ asg (upd m p (enc x)) [] h' (fun y m1 ds1 h1=>y=.normal/\ds1=[]/\m1=upd (upd m p (enc x)) q (.pointer (some ⟨h'.nx,0,none⟩))/\Ext h' h1/\h1.get h'.nx=some (.cells (cs x) el op)))
  (hbody:∀l bn pre x post s h' R,L=pre++x::post->ok pre s->Own h0 h' (ceI bn (cs x) el op::(X s++R))->Ext h0 h' →
   Wc P ⟨fr.fn,fr.nt,some l⟩ bd (upd (upd m p (enc x)) q (.pointer (some ⟨bn,0,none⟩))) [] h' (fun y _ _ h''=>y=.normal/\∃s',ok (pre++[x]) s'/\Own h0 h'' (X s'++R)/\Ext h0 h''))
  (hQ:∀s h'',ok L s->Own h0 h'' (loI h.nx .defd::X s)->Ext h0 h''->Q .normal m (.coll h.nx::ds) h''):Wc P fr (.rangeFunc f #[p] asg bd) m ds h Q:=by
 refine ZBR fun hw=>ZLT hrd hf hb fun e hs hL hEL hWL hnL hLr hLl=>?_;have hO1:Own h0 hL (loI h.nx .defd::X s0):=hO.new hw hE.2.1 hEL hLr fun c hc=>by rw[show c=h.nx from hc];exact Nat.le_refl _
 have hO2:Own h0 hL (loI (h.nx+1) (.loop .ready none fr.fn fr.nt e #[p] asg bd h.nx)::loI h.nx .defd::X s0):=by
  refine⟨fun x hx=>?_,fun x hx c hc=>?_,List.pairwise_cons.2 ⟨fun z hz c hc hzc=>?_,hO1.ap⟩⟩
  ·rcases List.mem_cons.1 hx with rfl|hx
   ·exact hLl
   ·exact hO1.has x hx
  ·rcases List.mem_cons.1 hx with rfl|hx
   ·rw[show c=h.nx+1 from hc];have:=hE.2.1;omega
   ·exact hO1.lo x hx c hc
  ·rw[show c=h.nx+1 from hc] at hzc
   rcases List.mem_cons.1 hz with rfl|hz
   ·exact absurd (show h.nx+1=h.nx from hzc) (by omega)
   ·obtain⟨o,ho⟩:=z.ex (hO.has z hz) hzc
    have:=hw _ _ ho;omega
 have hE1L:=hE.trans hEL;generalize hrec:AO.loop LoopState.ready none fr.fn fr.nt e #[p] asg bd h.nx=rec at hO2
 let J:List β->Heap->Prop:=fun pre h'=>∃s,ok pre s/\Own h0 h' (X s++[loI (h.nx+1) rec,loI h.nx .defd])/\Ext h0 h'
 have toJ:∀{s h' o},Own h0 h' (loI (h.nx+1) o::loI h.nx .defd::X s)->Own h0 h' (X s++[loI (h.nx+1) o,loI h.nx .defd]):=fun hO=>hO.perm (List.perm_append_comm (l₁:=[_,_]));have ofJ:∀{s h' o},Own h0 h' (X s++[loI (h.nx+1) o,loI h.nx .defd])->Own h0 h' (loI (h.nx+1) o::loI h.nx .defd::X s):=fun hO=>hO.perm (List.perm_append_comm (l₂:=[_,_]));refine (hit (h.nx+1) hL J ⟨s0,hok,toJ hO2,hE1L⟩ (fun pre h' ⟨s,_,h1,h2⟩=>⟨h2,s,_,h1⟩) (fun pre h1 h2 ⟨s,k1,k2,k3⟩ he=>⟨s,k1,k2.ext he,k3.trans he⟩) (fun pre x post h' hsp hJ=>?_)).ret ?_
 ·obtain⟨s,hoks,hOs,hEs⟩:=hJ
  have hl':h'.get (h.nx+1)=some rec:=(ofJ hOs).p1;rw[<-hrec] at hl'
  refine ZNV hl' hs rfl (by
   show ([p].all fun p=>Nat.blt p fr.nt)=true
   simp[hlt]) ?_
  refine ZBR fun hw'=>(hasg (h.nx+1) x h').mono ?_;rintro y m1 ds1 h1 ⟨rfl,rfl,rfl,hE1,hg1⟩;have hl1:=hE1.get hl';refine⟨rfl,rfl,_,_,_,_,_,_,_,_,hl1,?_⟩;generalize hAO:AO.loop LoopState.busy none fr.fn fr.nt e #[p] asg bd h.nx=bo;have hU:=Upd.mk' h1 (h.nx+1) bo;have hO3:Own h0 h1 (ceI h'.nx (cs x) el op::(X s++[loI (h.nx+1) rec,loI h.nx .defd])):=hOs.newCe hw' hEs.2.1 hE1 hg1 (Nat.le_refl _);have hO4:Own h0 h1 (loI (h.nx+1) rec::ceI h'.nx (cs x) el op::loI h.nx .defd::X s):=(hO3.perm (List.Perm.cons _ (List.perm_append_comm (l₂:=[_,_])))).up2;obtain⟨hO5,hE5⟩:=hO4.loSet hw0 (hEs.trans hE1) hU;generalize h1.set (h.nx+1) bo=h2 at *
  have hO6:Own h0 h2 (ceI h'.nx (cs x) el op::(X s++[loI (h.nx+1) bo,loI h.nx .defd])):=hO5.up2.perm (List.Perm.cons _ (List.perm_append_comm (l₁:=[_,_])));refine (hbody (h.nx+1) h'.nx pre x post s h2 _ hsp hoks hO6 hE5).mono ?_;rintro y m3 ds3 h3 ⟨rfl,s',hoks',hO7,hE7⟩;have hl3:h3.get (h.nx+1)=some bo:=(ofJ hO7).p1;rw[<-hAO] at hl3;refine⟨none,_,_,_,_,_,_,_,_,_,rfl,hl3,rfl,s',hoks',?_⟩;have hU8:=Upd.mk' h3 (h.nx+1) rec;obtain⟨hO8,hE8⟩:=(ofJ hO7).loSet hw0 hE7 hU8;rw[<-hrec] at hO8 hE8 ⊢;exact⟨toJ hO8,hE8⟩
 ·rintro v h' ⟨s,hoks,hOs,hEs⟩
  have hl':h'.get (h.nx+1)=some rec:=(ofJ hOs).p1;rw[<-hrec] at hl';refine⟨.ready,none,_,_,_,_,_,_,_,hl',by simp,fun _=>?_,fun c hc=>nomatch hc⟩;generalize hAO:AO.loop LoopState.exhausted _ _ _ _ _ _ _ _=bo;obtain⟨k1,k2⟩:=(ofJ hOs).loSet hw0 hEs (Upd.mk' h' (h.nx+1) bo);exact hQ s _ hoks k1.tail k2
end Go.Dw
namespace Go.Dw
open Go Go.Dx
variable {P:Program}{m:Mem}{h:Heap}{d:Option Tmp}{ty:TypeId}{pos:String}{af:Array Edge}{gu:Option (Nat×Bool)}
def minB (a b:List UInt8):List UInt8:=if b<a then b else a
def maxB (a b:List UInt8):List UInt8:=if b<a then a else b
theorem ZQu (w:World)(a b:List UInt8):(Op.stringOp .leq ⟨⟨a⟩⟩ ⟨⟨b⟩⟩).run P w=.ok (.bool (decide (¬b<a))) w:=by
 have e:(decide (a<b) || a == b)=decide (¬b<a):=by rw[decide_not,<-ZHr];congr 1;rw[Bool.eq_iff_iff];simp
 simp[go_sem,Op.stringOp,Go.Proofs.bytesLess_eq,e]
theorem ZPL (w:World)(a b:List UInt8):(Op.stringOp .geq ⟨⟨a⟩⟩ ⟨⟨b⟩⟩).run P w=.ok (.bool (decide (¬a<b))) w:=by
 have e:(decide (b<a) || a == b)=decide (¬a<b):=by
  rw[decide_not,<-ZHr];congr 1;rw[Bool.eq_iff_iff];simp only[beq_iff_eq,decide_eq_true_eq];exact eq_comm
 simp[go_sem,Op.stringOp,Go.Proofs.bytesLess_eq,e]
 by_cases q:a<b
 ·simp[q,List.not_le.2 q]
 ·simp[q,List.not_lt.1 q]
theorem ZRn {x y:Operand}{ts:Array TypeId}{a b:List UInt8}(hx:opk h m x=some (str a))(hy:opk h m y=some (str b)):Aop P ⟨d,.call ⟨.builtin .min,#[x,y],ts⟩,ty,pos,af,gu⟩ m h (str (minB a b)) h :=
 ZGZ hx hy rfl rfl rfl fun ev w h1 h2=>by
  have hr:(Builtin.min_ ts ty #[str a,str b]).run P w=.ok (str (minB a b)) w:=by
   have h3:=ZQu (P:=P) w a b;simp only[Builtin.min_,Builtin.min2,str,List.foldlM_cons,List.foldlM_nil,Sem.run_bind,h3,Result.andThen_ok,asBool,Sem.run_pure];unfold minB
   by_cases q:b<a <;> simp[q]
  simp only[execOp,resolve,Sem.run_bind,Sem.run_pure,Result.andThen_ok,invoke,builtin];simp only[List.map_toArray,List.map_cons,List.map_nil,h1,h2,hr,Sem.run_bind,Result.andThen_ok,Sem.run_pure]
theorem ZRk {x y:Operand}{ts:Array TypeId}{a b:List UInt8}(hx:opk h m x=some (str a))(hy:opk h m y=some (str b)):Aop P ⟨d,.call ⟨.builtin .max,#[x,y],ts⟩,ty,pos,af,gu⟩ m h (str (maxB a b)) h :=
 ZGZ hx hy rfl rfl rfl fun ev w h1 h2=>by
  have hr:(Builtin.max_ ts ty #[str a,str b]).run P w=.ok (str (maxB a b)) w:=by
   have h3:=ZPL (P:=P) w a b;simp only[Builtin.max_,Builtin.max2,str,List.foldlM_cons,List.foldlM_nil,Sem.run_bind,h3,Result.andThen_ok,asBool,Sem.run_pure];unfold maxB
   by_cases q:a<b
   ·have:¬b<a:=fun q2=>List.lt_irrefl _ (List.lt_trans q q2)
    simp[q,this]
   ·by_cases q2:b<a
    ·simp[q,q2]
    ·have:a=b:=List.le_antisymm (List.not_lt.1 q2) (List.not_lt.1 q)
     simp[q,this]
  simp only[execOp,resolve,Sem.run_bind,Sem.run_pure,Result.andThen_ok,invoke,builtin];simp only[List.map_toArray,List.map_cons,List.map_nil,h1,h2,hr,Sem.run_bind,Result.andThen_ok,Sem.run_pure]
variable {P:Program}
def AopN (P:Program)(o:Oper)(m:Mem)(h:Heap)(R:Value->Heap->Prop):Prop :=
 ∀e,Sat m e->∀(ι:Iota) (w:World) (a:Act),HR ι h w.heap->EnvR ι e a.tmps->∃v h1,R v h1/\OpS P ι h w (execOp a.eval o) v h1
section
variable {fr:Fr}{ops:Array Oper}{o:Oper}{m:Mem}{ds:List ADef}{h:Heap}{l:List Oper}{Q:CQ}
theorem ZVc {d:Nat}{R:Value->Heap->Prop}(hg:gk ops.toList m o.guard=some true)(hnd:∀c',o.op≠.defer c')(hd:o.dst=some d)(hlt:Nat.blt d fr.nt=true)(hA:AopN P o m h R)
  (hk:∀v h1,R v h1->Wo P fr ops l (upd m d v) ds h1 Q):Wo P fr ops (o::l) m ds h Q:=by
 refine⟨?_⟩;intro k hdr e hs ι0 h0 w0 ι w a F hr hfr hF ad0;obtain⟨ho,hd'⟩:=ZG4 hdr;rw[List.length_cons,List.range'_succ,wpOpsIn_cons];unfold wpOpIn;simp only[ho];rw[ZBI hfr (ZEC hs hg)];simp only[if_true];obtain⟨v,h1,hR,hO⟩:=hA e hs ι w a hr hfr.env;have hfin:fin VT fr o v e ds h1=.ok .normal (putE VT fr.fn d v e) ds h1:=by simp only[fin,put,hd,hlt]
 refine ZHE hF hnd hr hfr hO hfin ⟨fun _ ι2 _ a2 w2 _ ad hr2 hf2=>?_,fun v hv=>by cases hv⟩;exact (hk v h1 hR).w (k+1) hd' _ (hs.put fr.fn d v) ι0 h0 w0 ι2 w2 a2 F hr2 hf2 (hF.mono ad.sub) (ad0.trans ad)
end
section
variable {m:Mem}{h:Heap}{d:Option Tmp}{ty:TypeId}{pos:String}{af:Array Edge}{gu:Option (Nat×Bool)}
theorem ZOv {t k el:TypeId}{x:Operand}{b clock:Nat}{es:List MapEntry}(hu:P.underlying t=some (.map k el))(hx:opk h m x=some (.map (some b)))(hg:h.get b=some (.map es clock)) :
  Aop P ⟨d,.range t x,ty,pos,af,gu⟩ m h (.pointer (some ⟨h.nx,0,none⟩)) (h.add (.miter (some b) clock #[] clock)):=by
 intro e hsat ι w a hr he;have hsv:=ZAH hr he (ZAM hsat hx);generalize hz:a.eval x=z at hsv
 cases hsv with
 | @map _ bi hb =>
 obtain⟨es',hw,-⟩:=hr.mapAt hg hb
 let b2:BI:=⟨w.heap.size,0,0⟩
 have hadd:=hr.add (o:=.miter (some b) clock #[] clock) (o':=.mapIter (some bi.blk) clock #[] clock) (bi:=b2) rfl (by
  simp only[OR];exact⟨by trivial,by trivial,by trivial,bi,hr.sub_upd b2 _ _ hb,by trivial⟩)
 refine⟨_,.pointer (some ⟨w.heap.size,0,none⟩),{ w with heap:=w.heap.push (.mapIter (some bi.blk) clock #[] clock) },.inl ?_,?_,hadd.1,hadd.2⟩
 ·have hrun:=run_range_map (P:=P) w t k el bi.blk es' clock hu hw
  simp only[execOp,hz,Sem.run_bind,hrun,Result.andThen_ok,Sem.run_pure]
  rfl
 ·have h1:Dx.upd ι h.nx b2 h.nx=some b2:=Dx.upd_same _ _ _
  exact VR.ptr (o:=0) h1
theorem MER.mem' {ι:Iota}:∀{l l':List MapEntry},MER ι l l'->∀e'∈l',∃e∈l,e'.key=e.key/\VR ι e.val e'.val/\e'.born=e.born
 | _,_,.nil,e',he=>absurd he List.not_mem_nil
 | _,_,.cons h1 h2 h3 h4,e',he=>by
  rcases List.mem_cons.1 he with rfl|he
  ·exact⟨_,List.mem_cons_self,h1,h2,h3⟩
  ·obtain⟨e,g1,g2⟩:=MER.mem' h4 e' he
   exact⟨e,List.mem_cons_of_mem _ g1,g2⟩
theorem MER.mem2 {ι:Iota}:∀{l l':List MapEntry},MER ι l l'->∀e∈l,∃e'∈l',e'.key=e.key/\VR ι e.val e'.val/\e'.born=e.born
 | _,_,.nil,e,he=>absurd he List.not_mem_nil
 | _,_,.cons h1 h2 h3 h4,e,he=>by
  rcases List.mem_cons.1 he with rfl|he
  ·exact⟨_,List.mem_cons_self,h1,h2,h3⟩
  ·obtain⟨e',g1,g2⟩:=MER.mem2 h4 e he
   exact⟨e',List.mem_cons_of_mem _ g1,g2⟩
def ZVo (h:Heap)(r b since:Nat)(seen:Array Nat)(clock:Nat)(es:List MapEntry)(v:Value)(h1:Heap):Prop :=
 (v=.tuple ⟨[.bool false]⟩/\h1=h/\∀e∈es,seen.contains e.born=true) ∨
 ∃e∈es,seen.contains e.born=false/\v=.tuple ⟨[.bool true,e.key,e.val]⟩/\h1=h.set r (.miter (some b) since (seen.push e.born) clock)
theorem ZRS {x:Operand}{r b since c0 clock:Nat}{seen:Array Nat}{es:List MapEntry}(hx:opk h m x=some (.pointer (some ⟨r,0,none⟩)))(hg:h.get r=some (.miter (some b) since seen c0))(hgb:h.get b=some (.map es clock))
  (hfl:∀e∈es,flat e.key=true) (hold:∀e∈es,e.born<since) (hsc:since<=c0):AopN P ⟨d,.next x false,ty,pos,af,gu⟩ m h (ZVo h r b since seen clock es):=by
 intro e hsat ι w a hr he;have hsv:=ZAH hr he (ZAM hsat hx);generalize hz:a.eval x=z at hsv
 cases hsv with
 | @ptr _ _ ri hri =>
 obtain⟨o',hwr,hor⟩:=hr.objAt hg hri;obtain⟨bi,hbi,hwr'⟩:∃bi,ι b=some bi/\w.heap[ri.blk]?=some (.mapIter (some bi.blk) since seen c0):=by
  cases o' with
  | mapIter m' s' q' c' =>
   cases m' with
   | none=>simp only[OR] at hor
   | some m' =>
    simp only[OR] at hor;obtain⟨rfl,rfl,rfl,bi,h1,rfl⟩:=hor;exact⟨bi,h1,hwr⟩
  | _=>simp only[OR] at hor
 obtain⟨es',hwb,hME⟩:=hr.mapAt hgb hbi
 have hold':∀y∈es'.toList,y.born<since:=fun y hy=>by
  obtain⟨e1,h1,-,-,h4⟩:=MER.mem' hME y hy;rw[h4];exact hold e1 h1
 rcases run_next_at (P:=P) w ty ri.blk bi.blk since c0 seen es' clock hwr' hwb hold' hsc with ⟨h0,hrun⟩|⟨e',he',w1,hal,hrun⟩
 ·refine⟨_,_,.inl ⟨rfl,rfl,fun e1 h1=>?_⟩,OpS.here (v':=.tuple #[.bool false]) hr ?_ (VR.of_flat ι rfl)⟩
  ·obtain⟨e2,g1,-,-,g4⟩:=MER.mem2 hME e1 h1
   have:=all_seen es' seen h0 e2 g1;rw[<-g4];exact this
  ·simp only[execOp,hz,Sem.run_bind,hrun,Result.andThen_ok,Sem.run_pure]
 ·obtain⟨g1,g2⟩:=mem_left he'
  obtain⟨e1,f1,f2,f3,f4⟩:=MER.mem' hME e' g1
  have hset:=hr.set (w:=w) (o2:=.miter (some b) since (seen.push e1.born) clock) (o2':=.mapIter (some bi.blk) since (seen.push e'.born) clock) hg hri (by
   simp only[OR];exact⟨by trivial,by rw[f4],by trivial,bi,hbi,by trivial⟩)
  refine⟨_,_,.inr ⟨e1,f1,by rw[<-f4];exact g2,rfl,rfl⟩,ι,.tuple #[.bool true,e'.key,e'.val],Go.ChangeMaps.setBlock w1 ri.blk (.mapIter (some bi.blk) since (seen.push e'.born) clock),.inl ?_,?_,?_,?_⟩
  ·simp only[execOp,hz,Sem.run_bind,hrun,Result.andThen_ok,Sem.run_pure]
  ·refine VR.tup (.cons (.bool _) (.cons ?_ (.cons f3 .nil)))
   rw[f2];exact VR.of_flat ι (hfl e1 f1)
  ·have:(Go.ChangeMaps.setBlock w1 ri.blk (.mapIter (some bi.blk) since (seen.push e'.born) clock)).heap=w.heap.setIfInBounds ri.blk (.mapIter (some bi.blk) since (seen.push e'.born) clock):=by
    rcases hal with rfl|rfl <;> rfl
   rw[this];exact hset.1
  ·refine hset.2.alike ?_ ?_ ?_ ?_ ?_
   ·rcases hal with rfl|rfl <;> rfl
   ·rcases hal with rfl|rfl <;> rfl
   ·rcases hal with rfl|rfl <;> rfl
   ·rcases hal with rfl|rfl <;> rfl
   ·rcases hal with rfl|rfl
    ·exact Nat.le_refl _
    ·exact Nat.le_succ _
end
variable {P:Program}
section
variable {m:Mem}{h:Heap}{d:Option Tmp}{ty:TypeId}{pos:String}{af:Array Edge}{gu:Option (Nat×Bool)}
theorem ZNW {ι:Iota}:∀{l l':List MapEntry},MER ι l l'->l'.map (·.born)=l.map (·.born)
 | _,_,.nil=>rfl
 | _,_,.cons _ _ h3 h4=>by rw[List.map_cons,List.map_cons,h3,ZNW h4]
theorem ZTi {x:Operand}{r b since clock:Nat}{seen:Array Nat}{es:List MapEntry}{en:MapEntry}(hx:opk h m x=some (.pointer (some ⟨r,0,none⟩)))(hg:h.get r=some (.miter (some b) since (seen.push en.born) clock))(hgb:h.get b=some (.map es clock))(hen:en∈es)
  (hfl:flat en.key=true) (hnd:(es.map MapEntry.born).Nodup):Aop P ⟨d,.entry x,ty,pos,af,gu⟩ m h (.tuple ⟨[en.key,en.val]⟩) h:=by
 intro e hsat ι w a hr he;have hsv:=ZAH hr he (ZAM hsat hx);generalize hz:a.eval x=z at hsv
 cases hsv with
 | @ptr _ _ ri hri =>
 obtain⟨o',hwr,hor⟩:=hr.objAt hg hri;obtain⟨bi,hbi,hwr'⟩:∃bi,ι b=some bi/\w.heap[ri.blk]?=some (.mapIter (some bi.blk) since (seen.push en.born) clock):=by
  cases o' with
  | mapIter m' s' q' c' =>
   cases m' with
   | none=>simp only[OR] at hor
   | some m' =>
    simp only[OR] at hor;obtain⟨rfl,rfl,rfl,bi,h1,rfl⟩:=hor;exact⟨bi,h1,hwr⟩
  | _=>simp only[OR] at hor
 obtain⟨es',hwb,hME⟩:=hr.mapAt hgb hbi;obtain⟨e',g1,g2,g3,g4⟩:=MER.mem2 hME _ hen;rw[<-g4] at hwr'
 have hrun:=run_entry_at (P:=P) w ri.blk bi.blk since seen es' clock e' hwr' hwb g1 (by
  have:es'.toList.map (·.born)=es.map (·.born):=ZNW hME
  rw[this];exact hnd)
 refine OpS.here (v':=.tuple #[e'.key,e'.val]) hr ?_ (VR.tup (.cons ?_ (.cons g3 .nil)))
 ·simp only[execOp,hz,Sem.run_bind,hrun,Result.andThen_ok,Sem.run_pure]
 ·rw[g2];exact VR.of_flat ι hfl
end
section maps
variable {t:TypeId} {α:Type} [DecidableEq α](K:KeyK P t α)
theorem KeyK.inj {a b:α}(h:K.enc a=K.enc b):a=b:=by
 have h1:=K.eq a b;have h2:=K.eq b b;rw[h] at h1;rw[h1] at h2
 simpa using h2
def ZG1 (h:Heap)(b r:Nat)(l:List (α×Value))(V:List α):Prop :=
 ∃(es:List MapEntry) (clock since:Nat) (seen:Array Nat) (c0:Nat),h.get b=some (.map es clock)/\Ents K es l/\(es.map MapEntry.born).Nodup/\(∀e∈es,e.born<clock)/\h.get r=some (.miter (some b) since seen c0)/\since<=c0/\since<=clock/\(∀e∈es,e.born<since)/\∀e∈es,∀k,e.key=K.enc k->(seen.contains e.born=true ↔ k∈V)
def CurK (h:Heap)(b r:Nat)(k:α)(v:Value):Prop :=
 ∃(es:List MapEntry) (clock since:Nat) (seen:Array Nat) (e:MapEntry),h.get b=some (.map es clock)/\(es.map MapEntry.born).Nodup/\h.get r=some (.miter (some b) since (seen.push e.born) clock)/\e∈es/\e.key=K.enc k/\e.val=v
theorem ZG1.mapB {h:Heap}{b r:Nat}{l:List (α×Value)}{V:List α}(hI:ZG1 K h b r l V):MapB K h b l:=by
 obtain⟨es,clock,since,seen,c0,h1,h2,h3,h4,-⟩:=hI;exact⟨es,clock,h1,h2,h3,h4⟩
theorem ZG1.ne {h:Heap}{b r:Nat}{l:List (α×Value)}{V:List α}(hI:ZG1 K h b r l V):b≠r:=by
 obtain⟨es,clock,since,seen,c0,h1,h2,h3,h4,h5,-⟩:=hI;rintro rfl;rw[h1] at h5;cases h5
def itI (b r:Nat)(l:List (α×Value))(V:List α):It where
 S:=fun c=>c=b\/c=r
 p:=fun h=>ZG1 K h b r l V
 loc:=fun hk hp=>by
  obtain⟨es,clock,since,seen,c0,h1,h2,h3,h4,h5,h6⟩:=hp;exact⟨es,clock,since,seen,c0,hk _ _ (.inl rfl) h1,h2,h3,h4,hk _ _ (.inr rfl) h5,h6⟩
 ex:=fun hp hc=>by
  obtain⟨es,clock,since,seen,c0,h1,h2,h3,h4,h5,h6⟩:=hp
  rcases hc with rfl|rfl
  ·exact⟨_,h1⟩
  ·exact⟨_,h5⟩
theorem ZN1 {es:List MapEntry}{l:List (α×Value)}(h:Ents K es l){e:MapEntry}(he:e∈es):∃k,(k,e.val)∈l/\e.key=K.enc k:=by
 unfold Ents at h;have:(e.key,e.val)∈es.map fun e=>(e.key,e.val):=List.mem_map.2 ⟨e,he,rfl⟩;rw[h] at this;obtain⟨p,h1,h2⟩:=List.mem_map.1 this;simp only[Prod.mk.injEq] at h2;exact⟨p.1,by rw[<-h2.2];exact h1,h2.1.symm⟩
theorem ZPH {es:List MapEntry}{l:List (α×Value)}(h:Ents K es l){p:α×Value}(hp:p∈l):∃e∈es,e.key=K.enc p.1/\e.val=p.2:=by
 unfold Ents at h;have:(K.enc p.1,p.2)∈l.map fun p=>(K.enc p.1,p.2):=List.mem_map.2 ⟨p,hp,rfl⟩;rw[<-h] at this;obtain⟨e,h1,h2⟩:=List.mem_map.1 this;simp only[Prod.mk.injEq] at h2;exact⟨e,h1,h2.1,h2.2⟩
theorem ZP8 {es:List MapEntry}{l:List (α×Value)}(h:Ents K es l){i:Nat}(hi:i<es.length):∃hl:i<l.length,es[i].key=K.enc l[i].1:=by
 unfold Ents at h;have hlen:es.length=l.length:=by have:=congrArg List.length h;simpa using this
 refine⟨by omega,?_⟩;have h1:(es.map fun e=>(e.key,e.val))[i]?=(l.map fun p=>(K.enc p.1,p.2))[i]?:=by rw[h]
 rw[List.getElem?_map,List.getElem?_map,List.getElem?_eq_getElem hi,List.getElem?_eq_getElem (by omega)] at h1;simp only[Option.map_some,Option.some.injEq,Prod.mk.injEq] at h1;exact h1.1
theorem ZOk {l:List (α×Value)}(ho:Once l){p:α×Value}(hp:p∈l):lkp p.1 l=some p.2:=by
 induction l with
 | nil=>exact absurd hp List.not_mem_nil
 | cons q l ih =>
  unfold Once at ho;rw[List.map_cons,List.nodup_cons] at ho;unfold lkp
  rcases List.mem_cons.1 hp with rfl|hp
  ·rw[if_pos rfl]
  ·rw[if_neg (fun e=>ho.1 (by rw[<-e];exact List.mem_map.2 ⟨p,hp,rfl⟩))]
   exact ih ho.2 hp
theorem ZOM {l:List (α×Value)}{k:α}{v:Value}(h:lkp k l=some v):(k,v)∈l:=by
 induction l with
 | nil=>cases h
 | cons q l ih =>
  unfold lkp at h
  split at h
  ·rename_i e
   cases h;rw[e];exact List.mem_cons_self
  ·exact List.mem_cons_of_mem _ (ih h)
section
variable {fr:Fr}{m:Mem}{ds:List ADef}{h:Heap}{Q:CQ}{ops:Array Oper}{lo:List Oper}{d:Nat}{ty:TypeId}{pos:String}{af:Array Edge}{gu:Option (Nat×Bool)}
theorem ZB0 {h0:Heap}{I:List It}{tm el:TypeId}{x:Operand}{b:Nat}{l:List (α×Value)}(he0:Ext h0 h)(hg:gk ops.toList m gu=some true)(hlt:Nat.blt d fr.nt=true)(hu:P.underlying tm=some (.map t el))(hx:opk h m x=some (.map (some b)))(hO:Own h0 h (mapI K b l::I))
  (hk:∀h1,WF h1->Own h0 h1 (itI K b h.nx l []::I)->Ext h h1->Wo P fr ops lo (upd m d (.pointer (some ⟨h.nx,0,none⟩))) ds h1 Q):Wo P fr ops (⟨some d,.range tm x,ty,pos,af,gu⟩::lo) m ds h Q:=by
 refine ZBC fun hw=>?_;obtain⟨es,clock,h1,h2,h3,h4⟩:=hO.p1;refine ZTL hg (fun c' e=>by cases e) rfl hlt (ZOv hu hx h1) ?_;have hE:=Ext.add hw (.miter (some b) clock #[] clock);refine hk _ (hw.add _) ?_ hE;have hO1:=hO.new (y:=loI h.nx (.miter (some b) clock #[] clock)) hw he0.2.1 hE Heap.get_add_same fun c hc=>by rw[show c=h.nx from hc];exact Nat.le_refl _
 refine hO1.merge (z:=itI K b h.nx l []) (fun hp hq=>?_) fun c hc=>?_
 ·exact⟨es,clock,clock,#[],clock,hE.get h1,h2,h3,h4,hp,Nat.le_refl _,Nat.le_refl _,h4,fun e _ k _=>by simp⟩
 ·rcases hc with rfl|rfl
  ·exact .inr rfl
  ·exact .inl rfl
theorem ZCG {h0:Heap}{I:List It}{x:Operand}{b r:Nat}{l:List (α×Value)}{V:List α}(hw0:WF h0)(he0:Ext h0 h)(hg:gk ops.toList m gu=some true)(hlt:Nat.blt d fr.nt=true)(hx:opk h m x=some (.pointer (some ⟨r,0,none⟩)))(hon:Once l)(hO:Own h0 h (itI K b r l V::I))
  (hk0:(∀k v,lkp k l=some v->k∈V)->Wo P fr ops lo (upd m d (.tuple ⟨[.bool false]⟩)) ds h Q)
  (hk1:∀k v h1,lkp k l=some v->k ∉ V->CurK K h1 b r k v->Own h0 h1 (itI K b r l (k::V)::I)->Ext h0 h1->Wo P fr ops lo (upd m d (.tuple ⟨[.bool true,K.enc k,v]⟩)) ds h1 Q):Wo P fr ops (⟨some d,.next x false,ty,pos,af,gu⟩::lo) m ds h Q:=by
 refine ZBC fun hw=>?_;have hp:=hO.p1;have hne:=ZG1.ne K hp;obtain⟨es,clock,since,seen,c0,h1,h2,h3,h4,h5,h6,h69,h7,h8⟩:=hp;refine ZVc hg (fun c' e=>by cases e) rfl hlt (ZRS hx h5 h1 (fun e he=>by obtain⟨k,-,e1⟩:=ZN1 K h2 he;rw[e1];exact K.flat k) h7 h6) ?_;rintro v hh (⟨rfl,rfl,hall⟩|⟨e,he,hns,rfl,rfl⟩)
 ·refine hk0 fun k v hl=>?_
  obtain⟨e,g1,g2,-⟩:=ZPH K h2 (ZOM hl);exact (h8 e g1 k g2).1 (hall e g1)
 ·obtain⟨k,g1,g2⟩:=ZN1 K h2 he
  have hl:=ZOk hon g1;rw[g2];have hU:=Upd.mk' h r (.miter (some b) since (seen.push e.born) clock);have hX:Exb (itI K b r l V).S h (h.set r (.miter (some b) since (seen.push e.born) clock)):=(Exb.ofUpd hU).mono fun c hc=>.inr hc;have gb:=hU.get hne h1;have gr:=hU.at';refine hk1 k e.val _ hl (fun q=>by rw[(h8 e he k g2).2 q] at hns;cases hns) ⟨es,clock,since,seen,e,gb,h3,gr,he,g2,rfl⟩ (hO.put hw he0.2.1 hX ?_ fun c hc=>.inl hc) (hO.grows hX he0 hw0);refine⟨es,clock,since,seen.push e.born,clock,gb,h2,h3,h4,gr,h69,h69,h7,fun e2 he2 k2 hk2=>?_⟩
  ·have hb:(e2.born=e.born) ↔ k2=k:=by
    constructor
    ·intro q
     obtain⟨i,hi,rfl⟩:=List.getElem_of_mem he2;obtain⟨j,hj,rfl⟩:=List.getElem_of_mem he;have hij:i=j:=(List.getElem_inj (h₀:=by simpa using hi) (h₁:=by simpa using hj) h3).1 (by simpa using q);subst hij;exact KeyK.inj K (hk2.symm.trans g2)
    ·rintro rfl
     obtain⟨i,hi,rfl⟩:=List.getElem_of_mem he2;obtain⟨j,hj,rfl⟩:=List.getElem_of_mem he;obtain⟨hil,ei⟩:=ZP8 K h2 hi;obtain⟨hjl,ej⟩:=ZP8 K h2 hj;have e1:=KeyK.inj K (ei.symm.trans hk2);have e2:=KeyK.inj K (ej.symm.trans g2);have hij:i=j:=(List.getElem_inj (h₀:=by simpa using hil) (h₁:=by simpa using hjl) hon).1 (by simp only[List.getElem_map];rw[e1,e2]);subst hij;rfl
   rw[List.mem_cons,Array.contains_push];rw[<-h8 e2 he2 k2 hk2,<-hb];simp[or_comm]
theorem ZDk {x:Operand}{b r:Nat}{k:α}{v:Value}(hg:gk ops.toList m gu=some true)(hlt:Nat.blt d fr.nt=true)(hx:opk h m x=some (.pointer (some ⟨r,0,none⟩)))(hC:CurK K h b r k v)
  (hk:Wo P fr ops lo (upd m d (.tuple ⟨[K.enc k,v]⟩)) ds h Q):Wo P fr ops (⟨some d,.entry x,ty,pos,af,gu⟩::lo) m ds h Q:=by
 obtain⟨es,clock,since,seen,e,h1,h2,h3,h4,h5,h6⟩:=hC;have hA:=ZTi (P:=P) (d:=some d) (ty:=ty) (pos:=pos) (af:=af) (gu:=gu) hx h3 h1 h4 (by rw[h5];exact K.flat k) h2;rw[h5,h6] at hA;exact ZTL hg (fun c' e=>by cases e) rfl hlt hA hk
theorem ZMT {tm el:TypeId}{b r:Nat}{l:List (α×Value)}{V:List α}{k:α}{v v0:Value}(hu:P.underlying tm=some (.map t el))(hI:ZG1 K h b r l V)(hl:lkp k l=some v0) :
  ∃o,ZBh P tm (.map (some b)) (K.enc k) v h=some (h.set b o)/\∀h',Upd h b o h'->ZG1 K h' b r (setK k v l) V:=by
 have hne:=ZG1.ne K hI;obtain⟨es,clock,since,seen,c0,h1,h2,h3,h4,h5,h6,h69,h7,h8⟩:=hI;unfold ZBh;simp only[hu,K.hks,h1,K.flat,K.ok,h2.fk]
 cases hj:idx k l 0 with
 | none =>
  rcases ZDy k l 0 with ⟨_,g⟩|⟨i,v,g1,_⟩
  ·rw[g] at hl;cases hl
  ·rw[hj] at g1;cases g1
 | some j =>
  obtain⟨v1,s,g1,_⟩:=ZGs K h2 hj;simp only[ZAv,g1,K.same]
  have hm:∀e∈es.set j ⟨K.enc k,v,s⟩,∃e1∈es,e1.key=e.key/\e1.born=e.born:=fun e he=>by
   rcases List.mem_or_eq_of_mem_set he with g|rfl
   ·exact⟨e,g,rfl,rfl⟩
   ·exact⟨_,List.mem_of_getElem? g1,rfl,rfl⟩
  refine⟨_,rfl,fun h' hU=>⟨_,clock,since,seen,c0,hU.at',h2.set K hj,?_,fun e he=>?_,hU.get (Ne.symm hne) h5,h6,h69,fun e he=>?_,fun e he k2 hk2=>?_⟩⟩
  ·rw[ZLi g1];exact h3
  ·obtain⟨e1,q1,q2,q3⟩:=hm e he
   rw[<-q3];exact h4 e1 q1
  ·obtain⟨e1,q1,q2,q3⟩:=hm e he
   rw[<-q3];exact h7 e1 q1
  ·obtain⟨e1,q1,q2,q3⟩:=hm e he
   rw[<-q3];exact h8 e1 q1 k2 (q2.trans hk2)
theorem ZJQ {d:Option Tmp}{o1:Oper}{Kk Kp:Value->List ADef->Heap->Prop}{h0:Heap}{I:List It}{tm el:TypeId}{x y z:Operand}{b r:Nat}{l:List (α×Value)}{V:List α}{k:α}{v v0:Value}(ho1:o1=⟨d,.mapUpdate tm x y z,ty,pos,af,gu⟩)(hw0:WF h0)(he0:Ext h0 h)(hg:gk ops.toList m gu=some true)(hu:P.underlying tm=some (.map t el))(hx:opk h m x=some (.map (some b)))(hO:Own h0 h (itI K b r l V::I))(hl:lkp k l=some v0)(hy:opk h m y=some (K.enc k))(hz:opk h m z=some v)
  (hk:∀h1,Own h0 h1 (itI K b r (setK k v l) V::I)->Ext h0 h1->Kk (.tuple ⟨[]⟩) ds h1):W1 P fr ops o1 m ds h Kk Kp:=by
 subst ho1;refine ZR7 fun hw=>?_;obtain⟨o,h1,h2⟩:=ZMT K (v:=v) hu hO.p1 hl;have hU:=Upd.mk' h b o;have hX:Exb (itI K b r l V).S h (h.set b o):=(Exb.ofUpd hU).mono fun c hc=>.inl hc;refine ZCU hg rfl (ZAe fun e hs=>?_) (hk _ (hO.put hw he0.2.1 hX (h2 _ hU) fun c hc=>.inl hc) (hO.grows hX he0 hw0))
 show ZBk P h e tm x y z=_
 unfold ZBk;rw[ZAM hs hx,ZAM hs hy,ZAM hs hz];simp only[h1]
theorem ZCd {d:Option Tmp}{o1:Oper}{Kk Kp:Value->List ADef->Heap->Prop}{h0:Heap}{I:List It}{tm el:TypeId}{x y z:Operand}{b:Nat}{l:List (α×Value)}{k:α}{v:Value}(ho1:o1=⟨d,.mapUpdate tm x y z,ty,pos,af,gu⟩)(hw0:WF h0)(he0:Ext h0 h)(hg:gk ops.toList m gu=some true)(hu:P.underlying tm=some (.map t el))(hx:opk h m x=some (.map (some b)))(hO:Own h0 h (mapI K b l::I))(hy:opk h m y=some (K.enc k))(hz:opk h m z=some v)
  (hk:∀h1,Own h0 h1 (mapI K b (setK k v l)::I)->Ext h0 h1->Kk (.tuple ⟨[]⟩) ds h1):W1 P fr ops o1 m ds h Kk Kp :=
 ZR7 fun hw=>ZJn K ho1 hg hu hx hO.p1 hy hz fun h1 o hU hm=>hk h1 (hO.put hw he0.2.1 (Exb.ofUpd hU) hm fun _ hc=>.inl hc) (hO.grows (Exb.ofUpd hU) he0 hw0)
theorem ZOK {h0:Heap}{I:List It}{tm el:TypeId}{x y z:Operand}{b:Nat}{l:List (α×Value)}{k:α}{v:Value}(hw0:WF h0)(he0:Ext h0 h)(hg:gk ops.toList m gu=some true)(hu:P.underlying tm=some (.map t el))(hx:opk h m x=some (.map (some b)))(hO:Own h0 h (mapI K b l::I))(hy:opk h m y=some (K.enc k))(hz:opk h m z=some v)
  (hk:∀h1,WF h1->Own h0 h1 (mapI K b (setK k v l)::I)->Ext h0 h1->Wo P fr ops lo m ds h1 Q):Wo P fr ops (⟨none,.insert tm x y z,ty,pos,af,gu⟩::lo) m ds h Q:=by
 refine ZBC fun hw=>?_;obtain⟨o,h1,h2⟩:=ZFF K (v:=v) (k:=k) hu hO.p1;have hU:=Upd.mk' h b o;refine ZGe (v:=.tuple ⟨[]⟩) hg rfl rfl (ZAe fun e hs=>?_) (ZBC fun hw1=>hk _ hw1 (hO.put hw he0.2.1 (Exb.ofUpd hU) (h2 _ (Heap.get_set_self _ _ _)) fun _ hc=>.inl hc) (hO.grows (Exb.ofUpd hU) he0 hw0))
 show ZBk P h e tm x y z=_
 unfold ZBk;rw[ZAM hs hx,ZAM hs hy,ZAM hs hz];simp only[h1]
end
end maps
variable {P:Program}{t:TypeId} {α β:Type} [DecidableEq α](K:KeyK P t α)(enc:β->List Value)(el:TypeId)(sz:Nat)
def kvG (G:List (α×Value×List β)):List (α×Value):=G.map fun g=>(g.1,g.2.1)
def slG (h0:Heap)(G:List (α×Value×List β)):List It:=G.map fun g=>slI h0 g.2.1 el sz (g.2.2.flatMap enc) g.2.2.length
def ZBQ (k:α):List (α×Value×List β)->Option (Value×List β)
 | []=>none
 | g::G=>if k=g.1 then some g.2 else ZBQ k G
def rawG (k:α)(G:List (α×Value×List β)):List β:=((ZBQ k G).map Prod.snd).getD []
def setG (k:α)(v:Value)(l:List β):List (α×Value×List β)->List (α×Value×List β)
 | []=>[(k,v,l)]
 | g::G=>if k=g.1 then (k,v,l)::G else g::setG k v l G
theorem ZCa (k:α)(v:Value)(l:List β):∀G:List (α×Value×List β),kvG (setG k v l G)=setK k v (kvG G)
 | []=>rfl
 | g::G=>by
  unfold setG
  show _=setK k v ((g.1,g.2.1)::kvG G)
  unfold setK
  by_cases h:k=g.1
  ·simp only[h,if_true];rfl
  ·simp only[h,if_false]
   show (g.1,g.2.1)::kvG (setG k v l G)=_
   rw[ZCa k v l G]
theorem ZCl (k:α):∀G:List (α×Value×List β),lkp k (kvG G)=(ZBQ k G).map Prod.fst
 | []=>rfl
 | g::G=>by
  show lkp k ((g.1,g.2.1)::kvG G)=_
  unfold lkp ZBQ
  by_cases h:k=g.1
  ·simp[h]
  ·simp only[h,if_false];exact ZCl k G
theorem ZD1 (k k':α)(v:Value)(l:List β):∀G:List (α×Value×List β),ZBQ k' (setG k v l G)=if k'=k then some (v,l) else ZBQ k' G
 | []=>by simp[setG,ZBQ]
 | g::G=>by
  unfold setG
  by_cases h:k=g.1
  ·simp only[h,if_true,ZBQ]
   by_cases h2:k'=g.1 <;> simp[h2]
  ·simp only[h,if_false,ZBQ,ZD1 k k' v l G]
   by_cases h2:k'=g.1
   ·rw[if_pos h2,if_neg (fun e=>h (e.symm.trans h2)),if_pos h2]
   ·rw[if_neg h2,if_neg h2]
theorem ZGF (k k':α)(v:Value)(l:List β)(G:List (α×Value×List β)):rawG k' (setG k v l G)=if k'=k then l else rawG k' G:=by
 unfold rawG;rw[ZD1]
 split <;> rfl
theorem ZFu (h0:Heap)(k:α)(G:List (α×Value×List β)):∃R,(∀h A,Own h0 h (A++slG enc el sz h0 G)->Own h0 h (slI h0 ((lkp k (kvG G)).getD (.slice none 0 0)) el sz ((rawG k G).flatMap enc) (rawG k G).length::(A++R))) ∧
  (∀h A v l,Own h0 h (slI h0 v el sz (l.flatMap enc) l.length::(A++R))->Own h0 h (A++slG enc el sz h0 (setG k v l G))):=by
 cases hl:ZBQ k G with
 | none =>
  have hset:∀v l,setG k v l G=G++[(k,v,l)]:=fun v l=>by
   induction G with
   | nil=>rfl
   | cons g G ih =>
    unfold ZBQ at hl
    split at hl
    ·cases hl
    ·rename_i h
     unfold setG;rw[if_neg h,ih hl];rfl
  refine⟨slG enc el sz h0 G,fun h A hO=>?_,fun h A v l hO=>?_⟩
  ·have e1:(lkp k (kvG G)).getD (.slice none 0 0)=.slice none 0 0:=by rw[ZCl,hl];rfl
   have e2:rawG k G=[]:=by unfold rawG;rw[hl];rfl
   rw[e1,e2];exact hO.nilSl el sz
  ·rw[hset]
   have e:slG enc el sz h0 (G++[(k,v,l)])=slG enc el sz h0 G++[slI h0 v el sz (l.flatMap enc) l.length]:=by unfold slG;rw[List.map_append];rfl
   rw[e,<-List.append_assoc];exact hO.perm (List.perm_append_comm (l₁:=[_]))
 | some p =>
  obtain⟨v0,l0⟩:=p;have hsp:∃A B,G=A++(k,v0,l0)::B/\∀v l,setG k v l G=A++(k,v,l)::B:=by
   induction G with
   | nil=>cases hl
   | cons g G ih =>
    unfold ZBQ at hl
    split at hl
    ·rename_i h
     obtain⟨g1,g2⟩:=g;cases hl;simp only at h;subst h;exact⟨[],G,rfl,fun v l=>by unfold setG;simp⟩
    ·rename_i h
     obtain⟨A,B,e1,e2⟩:=ih hl;refine⟨g::A,B,by rw[e1];rfl,fun v l=>?_⟩;unfold setG;rw[if_neg h,e2];rfl
  obtain⟨A0,B0,e1,e2⟩:=hsp;have e3:(lkp k (kvG G)).getD (.slice none 0 0)=v0:=by rw[ZCl,hl];rfl
  have e4:rawG k G=l0:=by unfold rawG;rw[hl];rfl
  have es:∀v l,slG enc el sz h0 (A0++(k,v,l)::B0)=slG enc el sz h0 A0++slI h0 v el sz (l.flatMap enc) l.length::slG enc el sz h0 B0:=fun v l=>by
   unfold slG;rw[List.map_append,List.map_cons]
  refine⟨slG enc el sz h0 A0++slG enc el sz h0 B0,fun h A hO=>?_,fun h A v l hO=>?_⟩
  ·rw[e3,e4]
   rw[e1,es,<-List.append_assoc] at hO;have:=hO.perm List.perm_middle;rw[List.append_assoc] at this;exact this
  ·rw[e2,es,<-List.append_assoc]
   rw[<-List.append_assoc] at hO;exact hO.perm List.perm_middle.symm
theorem ZHS {h0:Heap}{k:α}{v:Value}{l:List β}:∀{G:List (α×Value×List β)},ZBQ k G=some (v,l)->slI h0 v el sz (l.flatMap enc) l.length∈slG enc el sz h0 G
 | [],h=>by cases h
 | g::G,h=>by
  unfold ZBQ at h
  split at h
  ·obtain⟨g1,g2⟩:=g
   cases h;exact List.mem_cons_self
  ·exact List.mem_cons_of_mem _ (ZHS h)
variable {P:Program}
section
variable {h0 h:Heap}{v:Value}{z:Nat}{el t tX:TypeId}{cs:List Value}{n k:Nat}{dd:TypeDesc}
end
section
variable {h0 h:Heap}{v:Value}{z:Nat}{el t tX:TypeId}{cs:List Value}{n k:Nat}{dd:TypeDesc}{ki:IntKind}
end
end Go.Dw
namespace Go.Dw
open Go.Dx Go.ChangeShapes Go.WideShapes Go.ChangeAt Go.RowKit
variable {H:Type}{enc:TypeId×Value->H}{P:Program}{W W':World}
theorem ZFz {T:TypeId->Prop}{sp:Nat->Bool}(K:Kids P T)(hz:∀t e,T t->P.underlying t=some (.slice e)->0<P.cellsOf e):∀{ts:List TypeId}{vs:List Value}{ds:List (DataW H)}{ps:List MemPlace},(∀t∈ts,T t)->DataW.TrodAll enc P W 0 (fun _=>true) true ts vs ds ps->(∀p∈ps,W.sameAt W' p)->(∀p∈ps,sp p.block=true)->DataW.TrodAll enc P W' 0 sp true ts vs ds ps
 | [],[],[],_,_,h,_,_=>h
 | t::ts,v::vs,d::ds,_,hT,⟨p,q,⟨n,h1⟩,h2,e⟩,hw,hs=>by
  subst e;refine⟨p,q,⟨n,DataW.trod_stays (x:=(d,p)) K (fun a b=>hz _ _ a b) (fun h=>by cases h) (hT t List.mem_cons_self) h1 (fun x hx=>hw x (List.mem_append_left _ hx)) (fun x hx=>hs x (List.mem_append_left _ hx))⟩,?_,rfl⟩;exact ZFz K hz (fun t ht=>hT t (List.mem_cons_of_mem _ ht)) h2 (fun x hx=>hw x (List.mem_append_right _ hx)) (fun x hx=>hs x (List.mem_append_right _ hx))
theorem ZPl (hu:Unch W W'):∀p:MemPlace,p.block<W.heap.size->W.sameAt W' p
 | .cell b off,hp=>by
  have:W'.heap[b]?=W.heap[b]?:=hu.same b hp;simp only[World.sameAt,World.cell?,this]
 | .map b,hp=>hu.same b hp
theorem ZP6 (u:Unch W W')(may:MemPlace->Prop):W.keptBut W' may:=by
 refine⟨u.os,u.out,fun i hi=>?_⟩;rw[u.same i hi]
 cases hq:W.heap[i]? with
 | none=>rfl
 | some o=>cases o <;> first|rfl|exact⟨rfl,rfl,rfl,fun _ _=>rfl⟩|exact .inr ⟨rfl,rfl⟩
theorem ZLH {f:Func}{s:ChangeSpec}{args:Array Value}{v:Value}{ds gs:List (DataW H)}{ZAd pa pv:List MemPlace}
  (hW:DataW.Whole enc P f.params.toList s.vars false W args.toList ds gs ZAd)
  (hres:∀(b:Nat) (sp:Nat->Bool) (hd:Bool),DataW.TrodAll enc P W' b sp hd f.resultTypes.toList (v.resultList f.resultTypes.size) (s.fn H (ds++gs)).results [])
  (hargs:∀sp:Nat->Bool,(∀p∈ZAd,sp p.block=true)->DataW.TrodAll enc P W' 0 sp true f.params.toList args.toList (s.fn H (ds++gs)).args pa)
  (hvars:∀sp:Nat->Bool,(∀p∈ZAd,sp p.block=true)->DataW.TrodVars enc P W' sp s.vars (s.fn H (ds++gs)).vars pv)
  (hu:Unch W W'):s.post enc P f false true false false W args v W':=by
 have hlt:=hW.lt;have hold:∀p∈ZAd,(fun b=>decide (b<W.heap.size)) p.block=true:=fun p hp=>by simpa using hlt p hp
 exact⟨ds,gs,ZAd,[],pa,pv,hW,hres _ _ _,hargs _ hold,hvars _ hold,ZP6 hu _,fun h=>nomatch h⟩
theorem ZPP {fn:Func}{s:ChangeSpec}{args:Array Value}{ds:List (DataW H)}{ZAd:List MemPlace}{T:TypeId->Prop}(K:Kids P T)(hz:∀t e,T t->P.underlying t=some (.slice e)->0<P.cellsOf e)(hT:∀t∈fn.params.toList,T t)
  (hW:DataW.Whole enc P fn.params.toList s.vars false W args.toList ds [] ZAd) (hv:s.vars=[]) (hres:(s.fn H (ds++[])).results=[.lit (.bool true)]) (hargs:(s.fn H (ds++[])).args=ds) (hvr:(s.fn H (ds++[])).vars=[])
  (hrt:fn.resultTypes=#[4]) (h4:P.underlying 4=some .bool) (hu:Unch W W'):s.post enc P fn false true false false W args (.bool true) W':=by
 have hW':=hW;obtain⟨p,q,hA,hV,rfl,_,_⟩:=hW;rw[hv] at hV;obtain⟨_,rfl⟩:=trodVars_none hV;rw[List.append_nil] at hW';refine ZLH (pa:=p) (pv:=[]) hW' (fun _ _ _=>?_) (fun sp hsp=>?_) (fun _ _=>?_) hu
 ·rw[hres,hrt];exact trodAll_cons_mk (shut_bool h4 _) trodAll_mk0
 ·rw[hargs]
  exact ZFz K hz hT hA (fun x hx=>ZPl hu x (hW'.lt x hx)) (fun x hx=>hsp x hx)
 ·rw[hv,hvr];exact rfl
end Go.Dw
