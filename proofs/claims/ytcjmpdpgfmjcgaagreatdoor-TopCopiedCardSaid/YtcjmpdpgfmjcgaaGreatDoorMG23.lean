/- DwW: the logic, part 18: ranges over functions within a round of another. -/
import Derived.ChangeArms
import Derived.RowKit3
import Derived.WalkKit
import Derived.ProofKit
import Derived.OpenShut
import Derived.Deep.DeepHandedRow
import Derived.ReadAgain
import Derived.ChangeStays
import Derived.Test.YtcjmpdpgfmjcgaaGreatDoorMG2
import Derived.Test.YtcjmpdpgfmjcgaaGreatDoorMG1
namespace Go.Dw
open Go.Dx
variable {P:Program}
def AfterN (P:Program)(fr:Fr)(m:Mem)(ds:List ADef)(l:Nat)(Q:CQ)(h':Heap):Prop :=
 ∃st pend fn2 nt2 e2 ps2 as2 bd2 df2,h'.get l=some (.loop st pend fn2 nt2 e2 ps2 as2 bd2 df2)/\st≠.busy ∧
  (pend=none->Q .normal m ds (h'.set l (.loop .exhausted pend fn2 nt2 e2 ps2 as2 bd2 df2))) ∧
  (∀c,pend=some c->Wc P fr c m ds (h'.set l (.loop .exhausted pend fn2 nt2 e2 ps2 as2 bd2 df2)) Q)
theorem Wc_rangeN {fr:Fr}{m:Mem}{ds:List ADef}{h:Heap}{Q:CQ}{f:Operand}{ps:Array Tmp}{asg bd:Code}{g:FuncId}{first cap:List Value}{l0:Nat}{st0:LoopState}{p0:Option Code}{fn0:FuncId}{nt0:Nat}{e0:Env}{ps0:Array Tmp}{as0 bd0:Code}{r:Nat}
  (hrd:fr.rd=some l0) (hgl:h.get l0=some (.loop st0 p0 fn0 nt0 e0 ps0 as0 bd0 r)) (hf:opk h m f=some (.func (.func g) ⟨first⟩ ⟨cap⟩)) (hb:bodied P g=true)
  (hv:∀e,Sat m e->Sv P g (first++(.func (.yield h.nx) ⟨[]⟩ ⟨[]⟩::cap)) (h.add (.loop .ready none fr.fn fr.nt e ps asg bd r)) (RetP fun _ h'=>AfterN P fr m ds h.nx Q h')) :
  Wc P fr (.rangeFunc f ps asg bd) m ds h Q:=by
 refine⟨?_⟩
 intro e hs ι w a F hr hfr hF
 refine wpIn_rangeFunc fun fn _=>?_
 rcases hF.roundEq with ⟨hrd',_⟩|⟨l,bil,hrd',hil,hro⟩
 ·rw[hrd] at hrd';cases hrd'
 rw[hrd] at hrd';cases hrd'
 obtain⟨lc0,hw0,q1,q2,q4,q5,q6,q7,q8,bir,q9,q10⟩:=hr.loopAt hgl hil
 have hf1:FR VT fr ι e ds { a with defers:=[]++a.defers }:=hfr
 have hopv:=opv_sound (a:={ a with defers:=[]++a.defers }) hr hfr.env (opk_opv hs hf)
 have hev0:({ a with defers:=[]++a.defers }:Act).eval f=a.eval f:=by cases f <;> rfl
 rw[hev0] at hopv
 generalize hz:a.eval f=z at hopv
 cases hopv with
 | fn _ hfirst hcap =>
 rename_i first' cap'
 let bi:BI:=⟨w.heap.size,0,0⟩
 let lc:Loop:={ state:=.ready,pending:=none,fn,tmps:=a.tmps,params:=ps,assign:=asg,body:=bd,defers:=bir.blk }
 have hsub2:=hr.sub_upd bi
 have hadd2:=hr.add (w:=w) (o:=.loop .ready none fr.fn fr.nt e ps asg bd r) (o':=.loop lc) (bi:=bi) rfl (by
  simp only[OR]
  exact⟨rfl,rfl,hf1.sz,hf1.env.mono hsub2,rfl,rfl,rfl,bir,hsub2 _ _ q9,rfl⟩)
 have hi1:Dx.upd ι h.nx bi h.nx=some bi:=Dx.upd_same _ _ _
 let W:World:={ w with heap:=w.heap.push (.loop lc) }
 let dd:Deferred:={ target:=.fn (.func g) cap',args:=first'++#[Value.func (.yield w.heap.size) #[] #[]] }
 have g1:(resolve a.eval (rangeCall f w.heap.size) 0).run P W=.ok dd W:=by
  simp only[resolve,hz,Deferred.ofValue,Sem.run_pure]
  simp[Act.eval]
  rfl
 have g2:(invoke dd.target dd.args).run P W=.ok (.enter g (first'++#[Value.func (.yield w.heap.size) #[] #[]]++cap')) W:=by
  simp only[dd,invoke]
  exact run_callFunc hb _ _
 have hargs:VRL (Dx.upd ι h.nx bi) (first++(Value.func (.yield h.nx) ⟨[]⟩ ⟨[]⟩::cap)) (first'++#[Value.func (.yield w.heap.size) #[] #[]]++cap').toList:=by
  have e1:(first'++#[Value.func (.yield w.heap.size) #[] #[]]++cap').toList=first'.toList++(Value.func (.yield w.heap.size) #[] #[]::cap'.toList):=by simp
  rw[e1]
  exact (hfirst.mono hsub2).append (.cons (VR.yield hi1) (hcap.mono hsub2))
 suffices g3:Calls P g (first'++#[Value.func (.yield w.heap.size) #[] #[]]++cap') W (rangePost F 0 P w.heap.size (PQ fr ι h w Q) { a with defers:=[]++a.defers }) by
  refine⟨_,_,_,dd,_,g,_,_,?_,g1,fun f' _=>hF.fn f',g2,(fun hd=>by rw[hF.depth] at hd;cases hd),hF.calls g3⟩
  rw[hro]
  simp only[Instr.enterLoop,Sem.run_bind,run_getLoop hw0,Result.andThen_ok,Sem.run_pure,run_newObj,q10]
  rfl
 refine ((hv e hs).w _ _ _ hadd2.1 hargs).mono ?_
 rintro en w2 ⟨r1,hR,hP⟩
 cases r1 with
 | no=>exact hP.elim
 | pan v h1=>exact hR.elim
 | ret v h1 =>
 obtain⟨st,pend,fn2,nt2,e2,ps2,as2,bd2,df2,hg2,hst,hQ1,hQ2⟩:=hR
 obtain⟨ι2,v',rfl,_,hr2,ad2⟩:=hP
 have hi2:=ad2.sub _ _ hi1
 obtain⟨lc2,hw2,n1,n2,n4,n5,n6,n7,n8,bi2',n9,n10⟩:=hr2.loopAt hg2 hi2
 have hset2:=hr2.set (o2:=.loop .exhausted pend fn2 nt2 e2 ps2 as2 bd2 df2) (o2':=.loop { lc2 with state:=.exhausted }) hg2 hi2 (by
  simp only[OR]
  exact⟨trivial,n2,n4,n5,n6,n7,n8,bi2',n9,n10⟩)
 have hend:(Instr.endLoop w.heap.size).run P w2=.ok pend { w2 with heap:=w2.heap.setIfInBounds w.heap.size (.loop { lc2 with state:=.exhausted }) }:=by
  have hw2':w2.heap[w.heap.size]?=some (.loop lc2):=hw2
  have hbs:(lc2.state == .busy)=false:=by rw[n1];cases st <;> first|rfl|exact absurd rfl hst
  simp only[Instr.endLoop,Sem.run_bind,run_getLoop hw2',Result.andThen_ok,hbs,Bool.false_eq_true,if_false,run_setLoop hw2',Sem.run_pure,n2]
 have hadv:Adv ι h w ι2 (h1.set h.nx (.loop .exhausted pend fn2 nt2 e2 ps2 as2 bd2 df2)) { w2 with heap:=w2.heap.setIfInBounds w.heap.size (.loop { lc2 with state:=.exhausted }) }:=(hadd2.2.trans ad2).trans hset2.2
 have hf2:FR VT fr ι2 e ds { a with defers:=[]++a.defers }:=(hf1.mono hsub2).mono ad2.sub
 have hF2:FenR ι2 fr.rd F:=(hF.mono hsub2).mono ad2.sub
 refine⟨pend,_,hend,?_⟩
 cases pend with
 | none=>exact⟨.normal,e,_,_,m,hs,hQ1 rfl,ι2,hadv,hset2.1,hf2,.normal⟩
 | some c =>
  refine wpIn_mono ((hQ2 c rfl).w e hs ι2 { w2 with heap:=w2.heap.setIfInBounds w.heap.size (.loop { lc2 with state:=.exhausted }) } _ F hset2.1 hf2 hF2) ?_
  intro ex a3 w3 hp
  exact hp.trans hadv
theorem Wc_rangeNL {fr:Fr}{m:Mem}{ds:List ADef}{h:Heap}{Q:CQ}{f:Operand}{ps:Array Tmp}{asg bd:Code}{g:FuncId}{first cap:List Value}{l0:Nat}{st0:LoopState}{p0:Option Code}{fn0:FuncId}{nt0:Nat}{e0:Env}{ps0:Array Tmp}{as0 bd0:Code}{r:Nat}
  (hrd:fr.rd=some l0) (hgl:h.get l0=some (.loop st0 p0 fn0 nt0 e0 ps0 as0 bd0 r)) (hf:opk h m f=some (.func (.func g) ⟨first⟩ ⟨cap⟩)) (hb:bodied P g=true)
  (hv:∀e,Sat m e->∀hL,Ext h hL->WF hL->hL.nx=h.nx+1->hL.get h.nx=some (.loop .ready none fr.fn fr.nt e ps asg bd r) →
   Sv P g (first++(.func (.yield h.nx) ⟨[]⟩ ⟨[]⟩::cap)) hL (RetP fun _ h'=>AfterN P fr m ds h.nx Q h')):Wc P fr (.rangeFunc f ps asg bd) m ds h Q:=by
 refine Wc_wf fun hw=>Wc_rangeN hrd hgl hf hb fun e hs=>?_
 exact hv e hs _ (Ext.add hw _) (hw.add _) rfl Heap.get_add_same
end Go.Dw
/- DzA: the abstract heap that a world is read by: every block read-only, under its own number; a run over it is a contract. -/
namespace Go.Dx
variable {P:Program}{V:Nat->Nat->Bool}
noncomputable def roT (lim:Nat):List Obj->Nat->Tr AO->Tr AO
 | [],_,t=>t
 | o::l,k,t=>roT lim l (k+1) (tset t k (some (.ro lim o)))
theorem roT_get (lim:Nat):∀(l:List Obj)(k:Nat)(t:Tr AO)(b:Nat),tget (roT lim l k t) b=if k<=b/\b<k+l.length then (l[b-k]?).map (.ro lim) else tget t b:=by
 intro l
 induction l with
 | nil=>intro k t b;simp only[roT,List.length_nil];rw[if_neg (by omega)]
 | cons o l ih =>
  intro k t b
  rw[roT,ih]
  by_cases h1:k+1<=b/\b<k+1+l.length
  ·rw[if_pos h1,if_pos (by simp;omega)]
   have:b-k=(b-(k+1))+1:=by omega
   rw[this,List.getElem?_cons_succ]
  ·rw[if_neg h1]
   by_cases h2:b=k
   ·subst h2;rw[tget_tset_same,if_pos (by simp)];simp
   ·rw[tget_tset_other _ _ _ _ h2,if_neg (by simp;omega)]
noncomputable def roH (lim gl:Nat)(w:World):Heap:=⟨roT lim w.heap.toList 0 .e,lim,gl⟩
theorem roH_get (lim gl:Nat)(w:World)(b:Nat):(roH lim gl w).get b=(w.heap[b]?).map (.ro lim):=by
 show tget (roT lim w.heap.toList 0 .e) b=_
 rw[roT_get]
 by_cases h:b<w.heap.size
 ·rw[if_pos (by simpa using h)];simp
 ·rw[if_neg (by simpa using h),tget_e];simp[Array.getElem?_eq_none (Nat.le_of_not_lt h)]
def idI (lim:Nat):Iota:=fun b=>if b<lim then some ⟨b,0,0⟩ else none
theorem idI_lt {lim b:Nat}(h:b<lim):idI lim b=some ⟨b,0,0⟩:=if_pos h
theorem roH_HR {lim gl:Nat}{w:World}(hs:w.heap.size<=lim)(hg:gl<=lim):HR (idI lim) (roH lim gl w) w.heap where
 obj:=fun b o hb=>by
  rw[roH_get] at hb
  cases hq:w.heap[b]? with
  | none=>rw[hq] at hb;cases hb
  | some x =>
   rw[hq] at hb;cases hb
   have hlt:b<w.heap.size:=(Array.getElem?_eq_some_iff.1 hq).1
   refine⟨⟨b,0,0⟩,x,idI_lt (by omega),hq,?_⟩
   simp only[OR]
   exact⟨trivial,fun c hc=>⟨⟨c,0,0⟩,idI_lt hc,rfl⟩⟩
 inj:=fun b b' o o' bi bi' h1 h2 i1 i2 heq=>by
  unfold idI at i1 i2
  split at i1
  ·split at i2
   ·cases i1;cases i2;exact heq
   ·cases i2
  ·cases i1
 fresh:=fun b bi hb=>by
  unfold idI at hb
  split at hb
  ·assumption
  ·cases hb
 glo:=fun g bi _ hb=>by
  unfold idI at hb
  split at hb
  ·cases hb;rfl
  ·cases hb
 gn:=hg
def Ext (h h':Heap):Prop:=(∀b o,h.get b=some o->h'.get b=some o)/\h.nx<=h'.nx/\h'.gl=h.gl
theorem Ext.refl (h:Heap):Ext h h:=⟨fun _ _ x=>x,Nat.le_refl _,rfl⟩
theorem Ext.trans {h h1 h2:Heap}(a:Ext h h1)(b:Ext h1 h2):Ext h h2:=⟨fun c o x=>b.1 c o (a.1 c o x),Nat.le_trans a.2.1 b.2.1,b.2.2.trans a.2.2⟩
theorem grown_of_ro {lim gl:Nat}{w w':World} {ι':Iota}{h':Heap}(ha:Adv (idI lim) (roH lim gl w) w ι' h' w')(hr:HR ι' h' w'.heap)(hs:w.heap.size<=lim)(he:Ext (roH lim gl w) h'):Unch w w':=by
 refine⟨ha.sz,fun c hc=>?_,ha.os,ha.out⟩
 obtain⟨x,hx⟩:∃x,w.heap[c]?=some x:=⟨_,Array.getElem?_eq_getElem hc⟩
 obtain⟨bi,o',i1,hw,ho⟩:=hr.obj c (.ro lim x) (he.1 _ _ (by rw[roH_get,hx];rfl))
 have i2:=ha.sub c ⟨c,0,0⟩ (idI_lt (by omega))
 rw[i2] at i1;cases i1
 simp only[OR] at ho
 rw[hw,hx,ho.1]
end Go.Dx
/- DzB: arguments: out of the row's reader into the abstract heap in which the world itself is only read; a contract there is one of the row's. -/
namespace Go.Dw
open Go.Dx
variable {H:Type}{enc:TypeId×Value->H}{P:Program}{W:World}{t e:TypeId}{cs:List Value}
noncomputable abbrev ro (W:World):Heap:=roH W.heap.size 0 W
def Rd (enc:TypeId×Value->H)(P:Program)(W:World)(t:TypeId)(cs:List Value):Prop:=∃n x,DataW.trod enc P W 0 (fun _=>true) true n t cs=some x
theorem rd_int (ht:P.underlying t=some (.int .i64))(h:Rd enc P W t cs):∃n,cs=[i64 n]/\I64 n:=by
 obtain⟨m,x,hx⟩:=h
 obtain⟨n,h1,_,h3⟩:=DataW.trod_int ht hx
 refine⟨n,h1,?_⟩
 simp[Lit.wf] at h3
 have h4:IntKind.i64.min = -9223372036854775808:=by decide
 have h5:IntKind.i64.max=9223372036854775807:=by decide
 omega
theorem rd_string (ht:P.underlying t=some .string)(h:Rd enc P W t cs):∃s:List UInt8,cs=[str s]/\Len s:=by
 obtain⟨m,x,hx⟩:=h
 obtain⟨⟨⟨s⟩⟩,h1,_,h3⟩:=DataW.trod_string ht hx
 refine⟨s,h1,?_⟩
 have:s.length<=maxLen:=h3
 have h5:maxLen=9223372036854775807:=by decide
 omega
theorem rd_struct {fs:Array Field}(ht:P.underlying t=some (.struct fs))(h:Rd enc P W t cs):cs.length=P.cellsOf t/\∀(i:Nat)(f:Field),fs[i]?=some f->Rd enc P W f.type ((cs.drop f.offset).take (P.cellsOf f.type)):=by
 obtain⟨m,x,hx⟩:=h
 obtain⟨xs,n,_,_,h1,h2,h3⟩:=DataW.trod_struct ht hx
 refine⟨h1,fun i f hi=>?_⟩
 have:=h3 i f hi
 have hlt:i<xs.length:=by rw[h2];exact (Array.getElem?_eq_some_iff.1 hi).1
 rw[List.getElem?_eq_getElem hlt] at this
 exact⟨n,_,this⟩
theorem mapM_get {α β:Type}{f:α->Option β}:∀{l:List α}{r:List β},l.mapM f=some r->l.length=r.length/\∀(i:Nat) a,l[i]?=some a->f a=r[i]?:=by
 intro l
 induction l with
 | nil=>intro r h;simp at h;subst h;exact⟨rfl,fun i a h=>by simp at h⟩
 | cons x l ih =>
  intro r h
  rw[List.mapM_cons] at h
  cases hx:f x with
  | none=>rw[hx] at h;cases h
  | some y =>
   rw[hx] at h
   cases hl:l.mapM f with
   | none=>rw[hl] at h;cases h
   | some ys =>
    rw[hl] at h
    cases h
    obtain⟨h1,h2⟩:=ih hl
    refine⟨by simp[h1],fun i a hi=>?_⟩
    cases i with
    | zero=>simp at hi;subst hi;simpa using hx
    | succ i=>simp at hi ⊢;exact h2 i a hi
theorem cells_cut {x:Addr}{n:Nat}{row:List Value}(h:W.cells? 0 x n=some row)(hn:0<n):x.spot=none/\∃c t fz,W.heap[x.block]?=some (.cells c t fz)/\cut c.toList x.off n=some row:=by
 unfold World.cells? at h
 rw[if_pos (Nat.zero_le _)] at h
 obtain⟨h1,h2⟩:=mapM_get h
 have h1':row.length=n:=by simpa using h1.symm
 have key:∀i,i<n->W.cell? (x.add i)=row[i]?:=fun i hi=>h2 i i (by simp[hi])
 have k0:=key 0 hn
 have e0:x.add 0=x:=by simp[Addr.add]
 rw[e0,List.getElem?_eq_getElem (by omega)] at k0
 unfold World.cell? at k0
 cases hb:W.heap[x.block]? with
 | none=>rw[hb] at k0;cases k0
 | some ob =>
  rw[hb] at k0
  cases ob with
  | cells c t fz =>
   simp only at k0
   have hsp:x.spot=none:=by
    cases hs:x.spot with
    | none=>rfl
    | some y=>rw[hs] at k0;simp at k0
   refine⟨hsp,c,t,fz,rfl,?_⟩
   have hget:∀i,i<n->c.toList[x.off+i]?=row[i]?:=by
    intro i hi
    have:=key i hi
    rw[<-this]
    unfold World.cell?
    have hblk:(x.add i).block=x.block:=by unfold Addr.add;split <;> rfl
    have hspt:(x.add i).spot=none:=by unfold Addr.add;split <;> simp[hsp]
    have hoff:(x.add i).off=x.off+i:=by unfold Addr.add;split <;> simp_all
    rw[hblk,hb]
    simp only[hspt,hoff]
    simp
   have hlt:x.off+n<=c.toList.length:=by
    have:=hget (n-1) (by omega)
    rw[List.getElem?_eq_getElem (show n-1<row.length by omega)] at this
    have:=(List.getElem?_eq_some_iff.1 this).1
    omega
   unfold cut
   have hb2:Nat.ble (Nat.add x.off n) c.toList.length=true:=Nat.ble_eq_true_of_le hlt
   rw[hb2]
   simp only
   congr 1
   apply List.ext_getElem?
   intro i
   rw[List.getElem?_take]
   split
   ·rename_i hi
    rw[List.getElem?_drop];exact hget i hi
   ·rename_i hi
    rw[List.getElem?_eq_none (by omega)]
  | _=>cases k0
theorem okv_sl {b o lim len cap:Nat}(h:Nat.blt b lim=true):okv lim (.slice (some ⟨b,o,none⟩) len cap)=true:=by
 cases len <;> cases cap <;> first|rfl|exact h
theorem rd_slice (ht:P.underlying t=some (.slice e))(hz:0<P.cellsOf e)(h:Rd enc P W t cs):∃v a len cap,cs=[v]/\okv W.heap.size v=true/\nz v=.slice a len cap/\len<9223372036854775808 ∧
  ∀i,i<len->∃b o,a=some ⟨b,o,none⟩/\∃row c t fz,W.heap[b]?=some (.cells c t fz)/\cut c.toList (o+i*P.cellsOf e) (P.cellsOf e)=some row/\Rd enc P W e row:=by
 have h5:maxLen=9223372036854775807:=by decide
 obtain⟨m,x,hx⟩:=h
 rcases DataW.trod_slice ht hx with ⟨h1,_⟩|⟨a,len,cap,elems,rest,n,_,h1,_,_,hlc,hcm,hel,he,hr,_⟩
 ·exact⟨_,none,0,0,h1,rfl,rfl,by decide,fun i hi=>by omega⟩
 ·have hread:∀i,i<cap->∃row,W.cells? 0 (a.add (i*P.cellsOf e)) (P.cellsOf e)=some row/\Rd enc P W e row:=by
   intro i hi
   have:∃y,(W.cells? 0 (a.add (i*P.cellsOf e)) (P.cellsOf e)).bind (DataW.trod enc P W 0 (fun _=>true) true n e)=some y:=by
    rcases Nat.lt_or_ge i len with g|g
    ·have:=he i g
     rw[List.getElem?_eq_getElem (by omega)] at this
     exact⟨_,this⟩
    ·obtain⟨hr1,hr2⟩:=hr rfl
     have:=hr2 (i-len) (by omega)
     rw[List.getElem?_eq_getElem (by omega),show len+(i-len)=i by omega] at this
     exact⟨_,this⟩
   obtain⟨y,hy⟩:=this
   cases hc:W.cells? 0 (a.add (i*P.cellsOf e)) (P.cellsOf e) with
   | none=>rw[hc] at hy;cases hy
   | some row=>rw[hc] at hy;exact⟨row,rfl,n,y,hy⟩
  by_cases hcap:cap=0
  ·have hlen:len=0:=by omega
   subst hcap;subst hlen
   exact⟨_,some ⟨0,0,some 0⟩,0,0,h1,rfl,rfl,by decide,fun i hi=>by omega⟩
  ·obtain⟨row0,hc0,_⟩:=hread 0 (by omega)
   have e0:a.add (0*P.cellsOf e)=a:=by simp[Addr.add]
   rw[e0] at hc0
   obtain⟨hsp,c,t',fz,hb,_⟩:=cells_cut hc0 hz
   obtain⟨b,o,sp⟩:=a
   simp only at hsp hb
   subst hsp
   have hlt:b<W.heap.size:=(Array.getElem?_eq_some_iff.1 hb).1
   have hne:¬(len=0/\cap=0):=fun h=>hcap h.2
   refine⟨_,some ⟨b,o,none⟩,len,cap,h1,?_,?_,by omega,fun i hi=>⟨b,o,rfl,?_⟩⟩
   ·have hbl:Nat.blt b W.heap.size=true:=by rw[Nat.blt_eq];exact hlt
    exact okv_sl hbl
   ·unfold nz
    split
    ·rename_i hq;simp only[Value.slice.injEq] at hq;exact absurd ⟨hq.2.1,hq.2.2⟩ hne
    ·rfl
   ·obtain⟨row,hc,hrd⟩:=hread i (by omega)
    obtain⟨_,c1,t1,fz1,hb1,hcut⟩:=cells_cut hc hz
    have hblk:((⟨b,o,none⟩:Addr).add (i*P.cellsOf e)).block=b:=by unfold Addr.add;split <;> rfl
    have hoff:((⟨b,o,none⟩:Addr).add (i*P.cellsOf e)).off=o+i*P.cellsOf e:=by unfold Addr.add;split <;> simp_all
    rw[hblk] at hb1
    rw[hoff] at hcut
    exact⟨row,c1,t1,fz1,hb1,hcut,hrd⟩
theorem ro_row {b o n:Nat}{row:List Value}{c:Array Value}{t:TypeId}{fz:Nat×Nat}(hb:W.heap[b]?=some (.cells c t fz))(hc:cut c.toList o n=some row)(hok:row.all (okv W.heap.size)=true):rowAt (ro W) b o n=some (row.map nz):=by
 unfold rowAt
 rw[roH_get,hb]
 simp only[Option.map_some]
 unfold rdo
 simp only[hc,hok]
theorem ro_cell {b o:Nat}{v:Value}{c:Array Value}{t:TypeId}{fz:Nat×Nat}(hb:W.heap[b]?=some (.cells c t fz))(hc:cut c.toList o 1=some [v])(hok:okv W.heap.size v=true):cellAt (ro W) b o=some (nz v):=by
 have:=cell_of_row (k:=0) (v:=nz v) (ro_row hb hc (by simp[hok])) rfl
 simpa using this
theorem list_of {α:Type}{R:Nat->α->Prop}{n:Nat}(h:∀i,i<n->∃x,R i x):∃l:List α,l.length=n/\∀i (hi:i<l.length),R i l[i]:=by
 induction n with
 | zero=>exact⟨[],rfl,fun i hi=>by simp at hi⟩
 | succ n ih =>
  obtain⟨l,h1,h2⟩:=ih fun i hi=>h i (by omega)
  obtain⟨x,hx⟩:=h n (by omega)
  refine⟨l++[x],by simp[h1],fun i hi=>?_⟩
  rcases Nat.lt_or_ge i l.length with g|g
  ·rw[List.getElem_append_left g];exact h2 i g
  ·have:i=n:=by simp at hi;omega
   subst this
   subst h1
   simpa using hx
theorem rd_list {α:Type}{encA:α->Value}{Fit:α->Prop}(ht:P.underlying t=some (.slice e))(hz:P.cellsOf e=1)(hel:∀row,Rd enc P W e row->∃x v,row=[v]/\okv W.heap.size v=true/\nz v=encA x/\Fit x)(h:Rd enc P W t cs) :
  ∃v a l cap,cs=[v]/\okv W.heap.size v=true/\nz v=.slice a l.length cap/\ListAt encA (ro W) a l/\Len l/\∀x∈l,Fit x:=by
 obtain⟨v,a,len,cap,h1,h2,h3,h4,h5⟩:=rd_slice ht (by omega) h
 have:∀i,i<len->∃x,(∃b o,a=some ⟨b,o,none⟩/\cellAt (ro W) b (o+i*1)=some (encA x))/\Fit x:=by
  intro i hi
  obtain⟨b,o,ha,row,c,t',fz,hb,hc,hrd⟩:=h5 i hi
  obtain⟨x,v,rfl,ok,hx,hf⟩:=hel row hrd
  rw[hz] at hc
  exact⟨x,⟨b,o,ha,by rw[<-hx];exact ro_cell hb hc ok⟩,hf⟩
 obtain⟨l,hl,hR⟩:=list_of this
 subst hl
 refine⟨v,a,l,cap,h1,h2,h3,fun i hi=>?_,h4,fun x hx=>?_⟩
 ·obtain⟨⟨b,o,ha,hc⟩,_⟩:=hR i hi
  exact⟨b,o,none,ha,hc⟩
 ·obtain⟨i,hi,rfl⟩:=List.getElem_of_mem hx
  exact (hR i hi).2
theorem rd_ints (ht:P.underlying t=some (.slice e))(he:P.underlying e=some (.int .i64))(hz:P.cellsOf e=1)(h:Rd enc P W t cs) :
  ∃v a l cap,cs=[v]/\okv W.heap.size v=true/\nz v=.slice a l.length cap/\IntsAt (ro W) a l/\Len l/\∀x∈l,I64 x :=
 rd_list (encA:=i64) (Fit:=I64) ht hz (fun row hr=>by
  obtain⟨n,h1,h2⟩:=rd_int he hr
  exact⟨n,_,h1,rfl,rfl,h2⟩) h
theorem rd_rows {α:Type}{R:Heap->List Value->α->Prop}{Fit:α->Prop}{k:Nat}(ht:P.underlying t=some (.slice e))(hz:P.cellsOf e=k)(hk:0<k)(hel:∀row,Rd enc P W e row->∃x,row.all (okv W.heap.size)=true/\R (ro W) (row.map nz) x/\Fit x)(h:Rd enc P W t cs) :
  ∃v a l cap,cs=[v]/\okv W.heap.size v=true/\nz v=.slice a l.length cap/\RowsAt k R (ro W) a l/\Len l/\∀x∈l,Fit x:=by
 obtain⟨v,a,len,cap,h1,h2,h3,h4,h5⟩:=rd_slice ht (by omega) h
 have:∀i,i<len->∃x,(∃b o,a=some ⟨b,o,none⟩/\∃row,rowAt (ro W) b (o+i*k) k=some row/\R (ro W) row x)/\Fit x:=by
  intro i hi
  obtain⟨b,o,ha,row,c,t',fz,hb,hc,hrd⟩:=h5 i hi
  obtain⟨x,ok,hx,hf⟩:=hel row hrd
  rw[hz] at hc
  exact⟨x,⟨b,o,ha,_,ro_row hb hc ok,hx⟩,hf⟩
 obtain⟨l,hl,hR⟩:=list_of this
 subst hl
 refine⟨v,a,l,cap,h1,h2,h3,fun i hi=>?_,h4,fun x hx=>?_⟩
 ·obtain⟨⟨b,o,ha,row,hc,hx⟩,_⟩:=hR i hi
  exact⟨b,o,none,ha,row,hc,hx⟩
 ·obtain⟨i,hi,rfl⟩:=List.getElem_of_mem hx
  exact (hR i hi).2
theorem calls_of_sv {f:FuncId}{args:List Value}{args':Array Value}(hs:Sv P f args (ro W) (RetP fun v h'=>v=.bool true/\Ext (ro W) h'))(hv:VRL (idI W.heap.size) args args'.toList) :
  Calls P f args' W fun e W'=>e=.returned (.bool true)/\Unch W W':=by
 refine (hs.w (idI W.heap.size) W args' (roH_HR (Nat.le_refl _) (Nat.zero_le _)) hv).mono ?_
 rintro en w' ⟨r,hR,hP⟩
 cases r with
 | ret v h' =>
  obtain⟨rfl,he⟩:=hR
  obtain⟨ι',v',rfl,hvv,hr,ha⟩:=hP
  cases hvv
  exact⟨rfl,grown_of_ro ha hr (Nat.le_refl _) ⟨he.1,he.2.1,he.2.2⟩⟩
 | pan v h'=>exact hR.elim
 | no=>exact hR.elim
theorem okv_vr {v:Value}(h:okv W.heap.size v=true):VR (idI W.heap.size) (nz v) v:=okv_sound (fun b hb=>⟨⟨b,0,0⟩,idI_lt hb,rfl⟩) h
theorem okv_vrl {l:List Value}(h:l.all (okv W.heap.size)=true):VRL (idI W.heap.size) (l.map nz) l:=okv_all (fun b hb=>⟨⟨b,0,0⟩,idI_lt hb,rfl⟩) h
end Go.Dw
/- DzD: reading a slice of integers with its room. -/
namespace Go.Dw
open Go Go.Dx
variable {P:Program}{H:Type}{enc:TypeId×Value->H}{W:World}{cs:List Value}{t e:TypeId}
end Go.Dw
/- DzC: what a row asks behind the call, where the answer is 'true' and all that was there is as it was. -/
namespace Go.Dw
open Go.Dx Go.ChangeShapes Go.WideShapes Go.ChangeAt Go.RowKit
variable {H:Type}{enc:TypeId×Value->H}{P:Program}{W W':World}
theorem trodAll_stays {T:TypeId->Prop}{sp:Nat->Bool}(K:Kids P T)(hz:∀t e,T t->P.underlying t=some (.slice e)->0<P.cellsOf e):∀{ts:List TypeId}{vs:List Value}{ds:List (DataW H)}{ps:List MemPlace},(∀t∈ts,T t)->DataW.TrodAll enc P W 0 (fun _=>true) true ts vs ds ps->(∀p∈ps,W.sameAt W' p)->(∀p∈ps,sp p.block=true)->DataW.TrodAll enc P W' 0 sp true ts vs ds ps
 | [],[],[],_,_,h,_,_=>h
 | t::ts,v::vs,d::ds,_,hT,⟨p,q,⟨n,h1⟩,h2,e⟩,hw,hs=>by
  subst e
  refine⟨p,q,⟨n,DataW.trod_stays (x:=(d,p)) K (fun a b=>hz _ _ a b) (fun h=>by cases h) (hT t List.mem_cons_self) h1 (fun x hx=>hw x (List.mem_append_left _ hx)) (fun x hx=>hs x (List.mem_append_left _ hx))⟩,?_,rfl⟩
  exact trodAll_stays K hz (fun t ht=>hT t (List.mem_cons_of_mem _ ht)) h2 (fun x hx=>hw x (List.mem_append_right _ hx)) (fun x hx=>hs x (List.mem_append_right _ hx))
theorem sameAt_of (hu:Unch W W'):∀p:MemPlace,p.block<W.heap.size->W.sameAt W' p
 | .cell b off,hp=>by
  have:W'.heap[b]?=W.heap[b]?:=hu.same b hp
  simp only[World.sameAt,World.cell?,this]
 | .map b,hp=>hu.same b hp
theorem unch_kept (u:Unch W W')(may:MemPlace->Prop):W.keptBut W' may:=by
 refine⟨u.os,u.out,fun i hi=>?_⟩
 rw[u.same i hi]
 cases hq:W.heap[i]? with
 | none=>rfl
 | some o=>cases o <;> first|rfl|exact⟨rfl,rfl,rfl,fun _ _=>rfl⟩|exact .inr ⟨rfl,rfl⟩
theorem post_of_unch {f:Func}{s:ChangeSpec}{args:Array Value}{v:Value}{ds gs:List (DataW H)}{before pa pv:List MemPlace}
  (hW:DataW.Whole enc P f.params.toList s.vars false W args.toList ds gs before)
  (hres:∀(b:Nat) (sp:Nat->Bool) (hd:Bool),DataW.TrodAll enc P W' b sp hd f.resultTypes.toList (v.resultList f.resultTypes.size) (s.fn H (ds++gs)).results [])
  (hargs:∀sp:Nat->Bool,(∀p∈before,sp p.block=true)->DataW.TrodAll enc P W' 0 sp true f.params.toList args.toList (s.fn H (ds++gs)).args pa)
  (hvars:∀sp:Nat->Bool,(∀p∈before,sp p.block=true)->DataW.TrodVars enc P W' sp s.vars (s.fn H (ds++gs)).vars pv)
  (hu:Unch W W'):s.post enc P f false true false false W args v W':=by
 have hlt:=hW.lt
 have hold:∀p∈before,(fun b=>decide (b<W.heap.size)) p.block=true:=fun p hp=>by simpa using hlt p hp
 exact⟨ds,gs,before,[],pa,pv,hW,hres _ _ _,hargs _ hold,hvars _ hold,unch_kept hu _,fun h=>nomatch h⟩
theorem post_bool {fn:Func}{s:ChangeSpec}{args:Array Value}{ds:List (DataW H)}{before:List MemPlace}{T:TypeId->Prop}(K:Kids P T)(hz:∀t e,T t->P.underlying t=some (.slice e)->0<P.cellsOf e)(hT:∀t∈fn.params.toList,T t)
  (hW:DataW.Whole enc P fn.params.toList s.vars false W args.toList ds [] before) (hv:s.vars=[]) (hres:(s.fn H (ds++[])).results=[.lit (.bool true)]) (hargs:(s.fn H (ds++[])).args=ds) (hvr:(s.fn H (ds++[])).vars=[])
  (hrt:fn.resultTypes=#[4]) (h4:P.underlying 4=some .bool) (hu:Unch W W'):s.post enc P fn false true false false W args (.bool true) W':=by
 have hW':=hW
 obtain⟨p,q,hA,hV,rfl,_,_⟩:=hW
 rw[hv] at hV
 obtain⟨_,rfl⟩:=trodVars_none hV
 rw[List.append_nil] at hW'
 refine post_of_unch (pa:=p) (pv:=[]) hW' (fun _ _ _=>?_) (fun sp hsp=>?_) (fun _ _=>?_) hu
 ·rw[hres,hrt];exact trodAll_cons_mk (shut_bool h4 _) trodAll_mk0
 ·rw[hargs]
  exact trodAll_stays K hz hT hA (fun x hx=>sameAt_of hu x (hW'.lt x hx)) (fun x hx=>hsp x hx)
 ·rw[hv,hvr];exact rfl
end Go.Dw
