/- DwA: a logic over the abstract heap: what is known of the slots, what code comes to; rules for code, loops, operations, calls. -/
import Derived.IntWalk
import Derived.Laws.Slices
import Derived.Lib.Strings
import Derived.Lib.Bytealg
import Derived.Lib.MinMax
import Derived.Sort.Grow
import Derived.Laws.IdiomStrings
import Derived.Test.YtdfadhkbhbbabaaGreatDoorAG1
set_option linter.unusedVariables false
set_option linter.unusedSimpArgs false
namespace Go.Dw
open Go.Dx
def VT:Nat->Nat->Bool:=fun _ _=>true
abbrev Mem:=Nat->Option Value
def upd (m:Mem)(d:Nat)(v:Value):Mem:=fun t=>cond (Nat.beq t d) (some v) (m t)
def m0:Mem:=fun _=>none
def kn:List (Nat×Value)->Mem
 | []=>m0
 | p::l=>upd (kn l) p.1 p.2
def Le (m m':Mem):Prop:=∀t v,m t=some v->m' t=some v
def AllK (m':Mem):List (Nat×Value)->Prop
 | []=>True
 | p::l=>m' p.1=some p.2/\AllK m' l
theorem upd_same (m:Mem)(d:Nat)(v:Value):upd m d v d=some v:=by unfold upd;rw[Nat.beq_refl];rfl
theorem upd_other (m:Mem){d t:Nat}(v:Value)(h:t≠d):upd m d v t=m t:=by
 unfold upd;cases hb:Nat.beq t d
 ·rfl
 ·exact absurd (Nat.eq_of_beq_eq_true hb) h
theorem Le.refl (m:Mem):Le m m:=fun _ _ h=>h
theorem Le.trans {a b c:Mem}(h:Le a b)(h':Le b c):Le a c:=fun t v x=>h' t v (h t v x)
theorem Le.m0 (m:Mem):Le Dw.m0 m:=fun _ _ h=>nomatch h
theorem Le.upd {m m':Mem}{d:Nat}{v:Value}(h:Le m m')(hd:m' d=some v):Le (Dw.upd m d v) m':=by
 intro t u hu
 by_cases e:t=d
 ·subst e;rw[upd_same] at hu;cases hu;exact hd
 ·rw[upd_other _ _ e] at hu;exact h t u hu
theorem Le.kn {m':Mem}:∀{l:List (Nat×Value)},AllK m' l->Le (Dw.kn l) m'
 | [],_=>Le.m0 _
 | _::_,h=>(Le.kn h.2).upd h.1
structure Sat (m:Mem)(e:Env):Prop where
 te:e.te=[]
 get:∀t v,m t=some v->lk t e=some v
theorem Sat.le {m m':Mem}{e:Env}(h:Sat m e)(hl:Le m' m):Sat m' e:=⟨h.te,fun t v x=>h.get t v (hl t v x)⟩
theorem Sat.ei {m:Mem}{e:Env}(h:Sat m e)(fn:FuncId):EI VT fn e:=⟨(fun p hp=>by rw[h.te] at hp;cases hp),fun _ _=>rfl⟩
theorem Sat.clear {m:Mem}{e:Env}(h:Sat m e):(⟨[],e.va⟩:Env)=e:=by rw[<-h.te]
theorem Sat.put {m:Mem}{e:Env}(h:Sat m e)(fn:FuncId)(d:Nat)(v:Value):Sat (upd m d v) (putE VT fn d v e):=by
 refine⟨?_,fun t u hu=>?_⟩
 ·show (⟨e.te,setL d v e.va⟩:Env).te=[];exact h.te
 ·rw[ZBy (h.ei fn)]
  by_cases e':t=d
  ·subst e';rw[upd_same] at hu;rw[if_pos rfl];exact hu
  ·rw[upd_other _ _ e'] at hu;rw[if_neg (fun x=>e' x.symm)];exact h.get t u hu
noncomputable def opk (h:Heap)(m:Mem)(x:Operand):Option Value :=
 match x with
 | .tmp t=>m t
 | .const v=>@Bool.casesOn (fun _=>Option Value) (flat v) none (some v)
 | .global g=>@Bool.casesOn (fun _=>Option Value) (Nat.blt g h.gl) none (@Option.casesOn AO (fun _=>Option Value) (h.get g) none (fun _=>some (.pointer (some ⟨g,0,none⟩))))
 | .func f=>some (.func (.func f) #[] #[])
theorem ZAM {h:Heap}{m:Mem}{e:Env}{x:Operand}{v:Value}(hs:Sat m e)(hv:opk h m x=some v):opv h e x=some v:=by
 cases x with
 | tmp t=>exact hs.get t v hv
 | _=>exact hv
noncomputable def opkl (h:Heap)(m:Mem):List Operand->Option (List Value)
 | []=>some []
 | x::l=>match opk h m x,opkl h m l with
  | some v,some r=>some (v::r)
  | _,_=>none
theorem ZCu {h:Heap}{m:Mem}{e:Env}(hs:Sat m e):∀{l:List Operand}{r:List Value},opkl h m l=some r->opvl h e l=some r
 | [],r,hr=>hr
 | x::l,r,hr=>by
  unfold opkl at hr
  show (match opv h e x,opvl h e l with|some v,some r=>some (v::r)|_,_=>none)=some r
  cases h1:opk h m x with
  | none=>rw[h1] at hr;cases hr
  | some v =>
   rw[h1] at hr
   cases h2:opkl h m l with
   | none=>rw[h2] at hr;cases hr
   | some vs =>
    rw[h2] at hr;rw[ZAM hs h1,ZCu hs h2];exact hr
abbrev CQ:=ZDK->Mem->List ADef->Heap->Prop
variable {P:Program}
def PQ (fr:Fr) (ι:Iota)(h:Heap)(w:World)(Q:CQ):Exit->Act->World->Prop:=fun ex a' w' =>
 ∃x e' ds' h' m',Sat m' e'/\Q x m' ds' h'/\ZJZ VT fr ι h w x e' ds' h' ex a' w'
theorem PQ.trans {fr:Fr} {ι ι1:Iota}{h h1:Heap}{w w1:World}{Q:CQ}(ha:Adv ι h w ι1 h1 w1){ex:Exit}{a':Act}{w':World}(hp:PQ fr ι1 h1 w1 Q ex a' w'):PQ fr ι h w Q ex a' w':=by
 obtain⟨x,e',ds',h',m',h1,h2,h3⟩:=hp;exact⟨x,e',ds',h',m',h1,h2,h3.trans ha⟩
theorem PQ.mono {fr:Fr} {ι:Iota}{h:Heap}{w:World}{Q Q':CQ}(hq:∀x m ds h,Q x m ds h->Q' x m ds h){ex:Exit}{a':Act}{w':World}(hp:PQ fr ι h w Q ex a' w'):PQ fr ι h w Q' ex a' w':=by
 obtain⟨x,e',ds',h',m',h1,h2,h3⟩:=hp;exact⟨x,e',ds',h',m',h1,hq _ _ _ _ h2,h3⟩
structure Wc (P:Program)(fr:Fr)(c:Code)(m:Mem)(ds:List ADef)(h:Heap)(Q:CQ):Prop where
 w:∀e:Env,Sat m e->∀(ι:Iota) (w:World) (a:Act) (F:Fence),HR ι h w.heap->FR VT fr ι e ds a->FenR ι fr.rd F->c.wpIn F 0 P (PQ fr ι h w Q) a w
structure Wo (P:Program)(fr:Fr)(ops:Array Oper)(l:List Oper)(m:Mem)(ds:List ADef)(h:Heap)(Q:CQ):Prop where
 w:∀k,ops.toList.drop k=l->∀e:Env,Sat m e->∀(ι0:Iota) (h0:Heap) (w0:World) (ι:Iota) (w:World) (a:Act) (F:Fence),HR ι h w.heap->FR VT fr ι e ds a->FenR ι fr.rd F->Adv ι0 h0 w0 ι h w →
  wpOpsIn F 0 P ops (PQ fr ι0 h0 w0 Q) (List.range' k l.length) a w
section
variable {fr:Fr}{m:Mem}{ds:List ADef}{h:Heap}{Q Q':CQ}
theorem Wc.mono {c:Code}(hw:Wc P fr c m ds h Q)(hq:∀x m ds h,Q x m ds h->Q' x m ds h):Wc P fr c m ds h Q' :=
 ⟨fun e hs ι w a F hr hf hF=>wpIn_mono (hw.w e hs ι w a F hr hf hF) fun _ _ _ hp=>hp.mono hq⟩
theorem Wc.le {c:Code}{m':Mem}(hw:Wc P fr c m' ds h Q)(hl:Le m' m):Wc P fr c m ds h Q :=
 ⟨fun e hs ι w a F hr hf hF=>hw.w e (hs.le hl) ι w a F hr hf hF⟩
theorem Wo.le {ops:Array Oper}{l:List Oper}{m':Mem}(hw:Wo P fr ops l m' ds h Q)(hl:Le m' m):Wo P fr ops l m ds h Q :=
 ⟨fun k hk e hs ι0 h0 w0 ι w a F hr hf hF ad=>hw.w k hk e (hs.le hl) ι0 h0 w0 ι w a F hr hf hF ad⟩
theorem PQ.here {ι:Iota}{w:World}{a:Act}{e:Env}{x:ZDK}{ex:Exit}(hs:Sat m e)(hr:HR ι h w.heap)(hf:FR VT fr ι e ds a)(hx:XR ι x ex)(hQ:Q x m ds h):PQ fr ι h w Q ex a w :=
 ⟨x,e,ds,h,m,hs,hQ,ι,.refl _ _ _,hr,hf,hx⟩
theorem ZIL (hQ:Q .normal m ds h):Wc P fr .skip m ds h Q:=⟨fun _ hs _ _ _ _ hr hf _=>wpIn_skip (PQ.here hs hr hf .normal hQ)⟩
theorem ZNU {l:Nat}(hQ:Q .normal m ds h):Wc P fr (.label l) m ds h Q:=⟨fun _ hs _ _ _ _ hr hf _=>wpIn_label (PQ.here hs hr hf .normal hQ)⟩
theorem ZMW {id:Nat}(hQ:Q (.exit id) m ds h):Wc P fr (.exit id) m ds h Q:=⟨fun _ hs _ _ _ _ hr hf _=>wpIn_exit (PQ.here hs hr hf (.exit id) hQ)⟩
theorem ZAC (hQ:Q .ret m ds h):Wc P fr .ret m ds h Q:=⟨fun _ hs _ _ _ _ hr hf _=>wpIn_ret (PQ.here hs hr hf .ret hQ)⟩
def Then (P:Program)(fr:Fr)(b:Code)(Q:CQ):CQ:=fun x m ds h =>
 match x with
 | .normal=>Wc P fr b m ds h Q
 | x=>Q x m ds h
theorem ZED {a b:Code}(hw:Wc P fr a m ds h (Then P fr b Q)):Wc P fr (.seq a b) m ds h Q:=by
 refine⟨?_⟩;intro e hs ι w ac F hr hf hF;refine wpIn_seq (wpIn_mono (hw.w e hs ι w ac F hr hf hF) ?_);rintro ex a1 w1 ⟨x,e1,ds1,h1,m1,s1,q1,ι1,ad,hr1,hf1,hx⟩
 cases hx with
 | normal=>exact wpIn_mono (q1.w e1 s1 ι1 w1 a1 F hr1 hf1 (hF.mono ad.sub)) fun _ _ _ hp=>hp.trans ad
 | exit id=>exact⟨.exit id,e1,ds1,h1,m1,s1,q1,ι1,ad,hr1,hf1,.exit id⟩
 | goto l=>exact⟨.goto l,e1,ds1,h1,m1,s1,q1,ι1,ad,hr1,hf1,.goto l⟩
 | ret=>exact⟨.ret,e1,ds1,h1,m1,s1,q1,ι1,ad,hr1,hf1,.ret⟩
 | pan hv=>exact⟨.pan _,e1,ds1,h1,m1,s1,q1,ι1,ad,hr1,hf1,.pan hv⟩
theorem ZMw {c:Operand}{x y:Code}{b:Bool}(hc:opk h m c=some (.bool b))(ht:b=true->Wc P fr x m ds h Q)(hn:b=false->Wc P fr y m ds h Q):Wc P fr (.cond c x y) m ds h Q:=by
 refine⟨?_⟩;intro e hs ι w a F hr hf hF;have hv:=(ZAH hr hf.env (ZAM hs hc)).flat_eq rfl;cases b
 ·exact wpIn_cond (t:=false) hv ((hn rfl).w e hs ι w a F hr hf hF)
 ·exact wpIn_cond (t:=true) hv ((ht rfl).w e hs ι w a F hr hf hF)
theorem ZN8 {c:Operand}{x y:Code}(hc:opk h m c=some (.bool true))(ht:Wc P fr x m ds h Q):Wc P fr (.cond c x y) m ds h Q:=ZMw hc (fun _=>ht) (fun hb=>nomatch hb)
theorem ZFR {c:Operand}{x y:Code}(hc:opk h m c=some (.bool false))(hn:Wc P fr y m ds h Q):Wc P fr (.cond c x y) m ds h Q:=ZMw hc (fun hb=>nomatch hb) (fun _=>hn)
def Blk (id:Nat)(Q:CQ):CQ:=fun x m ds h =>
 match x with
 | .exit j=>cond (Nat.beq j id) (Q .normal m ds h) (Q (.exit j) m ds h)
 | x=>Q x m ds h
theorem ZNy {id:Nat}{b:Code}(hw:Wc P fr b m ds h (Blk id Q)):Wc P fr (.block id b) m ds h Q:=by
 refine⟨?_⟩;intro e hs ι w ac F hr hf hF;refine wpIn_block (wpIn_mono (hw.w e hs ι w ac F hr hf hF) ?_);rintro ex a1 w1 ⟨x,e1,ds1,h1,m1,s1,q1,ι1,ad,hr1,hf1,hx⟩
 cases hx with
 | normal=>exact⟨.normal,e1,ds1,h1,m1,s1,q1,ι1,ad,hr1,hf1,.normal⟩
 | exit j =>
  simp only[Blk] at q1;cases hj:Nat.beq j id
  ·rw[hj] at q1
   have:j≠id:=fun e=>by rw[e,Nat.beq_refl] at hj;cases hj
   simp only[Exit.inBlock,this,if_false];exact⟨.exit j,e1,ds1,h1,m1,s1,q1,ι1,ad,hr1,hf1,.exit j⟩
  ·rw[hj] at q1
   have:j=id:=Nat.eq_of_beq_eq_true hj;simp only[Exit.inBlock,this,if_true];exact⟨.normal,e1,ds1,h1,m1,s1,q1,ι1,ad,hr1,hf1,.normal⟩
 | goto l=>exact⟨.goto l,e1,ds1,h1,m1,s1,q1,ι1,ad,hr1,hf1,.goto l⟩
 | ret=>exact⟨.ret,e1,ds1,h1,m1,s1,q1,ι1,ad,hr1,hf1,.ret⟩
 | pan hv=>exact⟨.pan _,e1,ds1,h1,m1,s1,q1,ι1,ad,hr1,hf1,.pan hv⟩
def Rnd {σ:Type}(I:σ->Mem->List ADef->Heap->Prop) (μ:σ->Nat)(s:σ)(Q:CQ):CQ:=fun x m ds h =>
 match x with
 | .normal=>∃s',μ s'<μ s/\I s' m ds h
 | x=>Q x m ds h
theorem ZAN {σ:Type}(I:σ->Mem->List ADef->Heap->Prop) (μ:σ->Nat){b:Code}(s:σ)(h0:I s m ds h)
  (hstep:∀s m ds h,I s m ds h->Wc P fr b m ds h (Rnd I μ s Q)):Wc P fr (.loop b) m ds h Q:=by
 refine⟨?_⟩;intro e hs ι w a F hr hf hF
 have key:∀(n:Nat) (s:σ) (m:Mem) (ds:List ADef) (h1:Heap) (e:Env) (ι1:Iota) (w1:World) (a1:Act),μ s<n->I s m ds h1->Sat m e->HR ι1 h1 w1.heap->FR VT fr ι1 e ds a1->Adv ι h w ι1 h1 w1 →
   Code.roundsIn F 0 P b (PQ fr ι h w Q) n a1 w1:=by
  intro n
  induction n with
  | zero=>intro s m ds h1 e ι1 w1 a1 hlt;omega
  | succ n ih =>
   intro s m ds h1 e ι1 w1 a1 hlt hI hs1 hr1 hf1 ad1;rw[roundsIn_succ];refine wpIn_mono ((hstep s m ds h1 hI).w e hs1 ι1 w1 a1 F hr1 hf1 (hF.mono ad1.sub)) ?_;rintro ex a2 w2 ⟨x,e2,ds2,h2,m2,s2,q2,ι2,ad2,hr2,hf2,hx⟩
   cases hx with
   | normal =>
    obtain⟨s',hlt',hI'⟩:=q2;exact ih s' m2 ds2 h2 e2 ι2 w2 a2 (by omega) hI' s2 hr2 hf2 (ad1.trans ad2)
   | exit id=>exact⟨.exit id,e2,ds2,h2,m2,s2,q2,ι2,ad1.trans ad2,hr2,hf2,.exit id⟩
   | goto l=>exact⟨.goto l,e2,ds2,h2,m2,s2,q2,ι2,ad1.trans ad2,hr2,hf2,.goto l⟩
   | ret=>exact⟨.ret,e2,ds2,h2,m2,s2,q2,ι2,ad1.trans ad2,hr2,hf2,.ret⟩
   | pan hv=>exact⟨.pan _,e2,ds2,h2,m2,s2,q2,ι2,ad1.trans ad2,hr2,hf2,.pan hv⟩
 exact wpIn_loop_rounds (μ s+1) (key (μ s+1) s m ds h e ι w a (by omega) h0 hs hr hf (.refl _ _ _))
theorem ZBs {i:Nat}{ops:Array Oper}(hw:Wo P fr ops ops.toList m ds h Q):Wc P fr (.region i ops false) m ds h Q:=by
 refine⟨?_⟩;intro e hs ι w a F hr hf hF;refine wpIn_region ?_;have:=hw.w 0 rfl e hs ι h w ι w a F hr hf hF (.refl _ _ _);rw[List.range_eq_range']
 simpa using this
theorem ZD7 {ops:Array Oper}(hQ:Q .normal m ds h):Wo P fr ops [] m ds h Q:=⟨fun _ _ _ hs _ _ _ _ _ _ _ hr hf _ ad=>(PQ.here hs hr hf .normal hQ).trans ad⟩
def evNo:Ev:=⟨fun _ _ _ _ _=>.no,fun _ _ _=>.no,0⟩
theorem ZGM (P:Program):EvOK P VT evNo:=⟨fun hs=>(by cases hs),fun hs hne=>absurd hs.symm hne⟩
theorem ZUN {ev:Ev}(hev:EvOK P VT ev){ops:Array Oper}{o:Oper}{l:List Oper}{m1:Mem}{ds1:List ADef}{h1:Heap}
  (hs1:∀e,Sat m e->∃e1,evOp P VT ev fr ops.toList o e ds h=.ok .normal e1 ds1 h1/\Sat m1 e1) (hk:Wo P fr ops l m1 ds1 h1 Q):Wo P fr ops (o::l) m ds h Q:=by
 refine⟨?_⟩;intro k hd e hs ι0 h0 w0 ι w a F hr hf hF ad0;have ho:ops[k]?=some o:=by
  have:ops.toList[k]?=some o:=by
   have h1:(ops.toList.drop k)[0]?=some o:=by rw[hd];rfl
   rw[List.getElem?_drop] at h1;simpa using h1
  simpa using this
 have hd':ops.toList.drop (k+1)=l:=by
  have:(ops.toList.drop k).drop 1=l:=by rw[hd];rfl
  rw[List.drop_drop] at this;exact this
 rw[List.length_cons,List.range'_succ,wpOpsIn_cons];obtain⟨e1,he1,s1⟩:=hs1 e hs;refine ZI1 hev ho he1 hr hf hF ⟨fun _ ι1 _ a1 w1 _ ad hr1 hf1=>?_,fun v hv=>by cases hv⟩;exact hk.w (k+1) hd' e1 s1 ι0 h0 w0 ι1 w1 a1 F hr1 hf1 (hF.mono ad.sub) (ad0.trans ad)
end
variable {P:Program}
structure Sv (P:Program)(g:FuncId)(args:List Value)(h:Heap)(R:VS->Prop):Prop where
 w:∀(ι:Iota) (w:World) (args':Array Value),HR ι h w.heap->VRL ι args args'.toList->Calls P g args' w fun en w'=>∃r,R r/\ZFA ι h w r en w'
def RetP (R:Value->Heap->Prop):VS->Prop
 | .ret v h=>R v h
 | _=>False
theorem Sv.mono {g:FuncId}{args:List Value}{h:Heap}{R R':VS->Prop}(hs:Sv P g args h R)(hr:∀r,R r->R' r):Sv P g args h R' :=
 ⟨fun ι w args' h1 h2=>(hs.w ι w args' h1 h2).mono fun _ _ ⟨r,a,b⟩=>⟨r,hr r a,b⟩⟩
theorem Sv.ret {g:FuncId}{args:List Value}{h:Heap}{R R':Value->Heap->Prop}(hs:Sv P g args h (RetP R))(hr:∀v h,R v h->R' v h):Sv P g args h (RetP R') :=
 hs.mono fun r hq=>by cases r with|ret v h=>exact hr v h hq|pan=>exact hq|no=>exact hq
theorem ZQM {ι:Iota}{h:Heap}{hp:Array Obj}(hr:HR ι h hp){b:Nat}{o:AO}(hg:h.get b=some o):b<h.nx:=by
 obtain⟨bi,_,h1,_,_⟩:=hr.obj b o hg;exact hr.fresh b bi h1
def WF (h:Heap):Prop:=∀b o,h.get b=some o->b<h.nx
theorem ZBR {fr:Fr}{c:Code}{m:Mem}{ds:List ADef}{h:Heap}{Q:CQ}(hw:WF h->Wc P fr c m ds h Q):Wc P fr c m ds h Q :=
 ⟨fun e hs ι w a F hr hf hF=>(hw (fun _ _ hg=>ZQM hr hg)).w e hs ι w a F hr hf hF⟩
theorem ZA5 {g:FuncId}{args:List Value}{h:Heap}{R:VS->Prop}(hw:WF h->Sv P g args h R):Sv P g args h R :=
 ⟨fun ι w args' h1 h2=>(hw (fun _ _ hg=>ZQM h1 hg)).w ι w args' h1 h2⟩
def argM:Nat->List Value->Mem->Mem
 | _,[],m=>m
 | i,v::l,m=>argM (i+1) l (upd m i v)
theorem ZHG (fr:Fr):∀(l:List Value)(i:Nat)(m:Mem)(e:Env),Sat m e->Sat (argM i l m) (ZLU VT fr i l e)
 | [],_,_,_,h=>h
 | v::l,i,m,e,h=>ZHG fr l (i+1) (upd m i v) _ (h.put fr.fn i v)
def Lv (P:Program)(fn:Func)(R:VS->Prop):CQ:=fun x m ds h =>
 match x with
 | .normal=>∀e,Sat m e->∃ev r,EvOK P VT ev/\ZDD P VT ev fn e ds .none h=r/\r≠.no/\R r
 | .ret=>∀e,Sat m e->∃ev r,EvOK P VT ev/\ZDD P VT ev fn e ds .none h=r/\r≠.no/\R r
 | .pan v=>∀e,Sat m e->∃ev r,EvOK P VT ev/\ZDD P VT ev fn e ds (.some v) h=r/\r≠.no/\R r
 | _=>False
theorem ZDJ {fn:Func}{tmps:Array Value}{R R':Ending->World->Prop}(hR:∀e w,R e w->R' e w):∀{l:List Deferred}{u:FrameMode}{w:World},LeavesInM Fence.wide 0 P fn tmps R l u w->LeavesInM Fence.wide 0 P fn tmps R' l u w:=by
 intro l
 induction l with
 | nil =>
  intro u w hl
  cases u with
  | run=>exact hl
  | returning=>obtain⟨v,h1,h2⟩:=hl;exact⟨v,h1,hR _ _ h2⟩
  | panicking c=>exact hR _ _ hl
 | cons d ds ih =>
  rintro u w ⟨hu,hl⟩;refine⟨hu,?_⟩
  rcases hl with ⟨r,w',h1,h2,h3⟩|⟨h1,fv,cap,f,args,h2,h3,h4,h5⟩
  ·exact .inl ⟨r,w',h1,h2,ih h3⟩
  ·refine .inr ⟨h1,fv,cap,f,args,h2,h3,h4,h5.mono ?_⟩
   intro e u' w' hq
   cases e with
   | returned v=>exact ih hq
   | panicked c=>exact ih hq
   | outgrown=>exact hR _ _ hq
theorem ZAG {g:FuncId}{fn:Func}{c:Code}{args:List Value}{h:Heap}{R:VS->Prop}(hfn:P.funcs[g]?=some fn)(hbody:fn.body=some c)(hb:Nat.ble args.length fn.ntmps=true)
  (hw:Wc P ⟨g,fn.ntmps,none⟩ c (argM 0 args m0) [] h (Lv P fn R)):Sv P g args h R:=by
 refine⟨?_⟩;intro ι w args' hr hv;have hf0:=ZNu (V:=VT) (fr:=⟨g,fn.ntmps,none⟩) hv (Nat.le_of_ble_eq_true hb);refine callsIn_wide.1 (callsIn_of_wp_marks (F:=Fence.wide) (n:=0) hfn hbody trivial ?_);refine wpIn_mono (hw.w _ (ZHG _ args 0 m0 ⟨[],[]⟩ ⟨rfl,fun _ _ h=>nomatch h⟩) ι w _ Fence.wide hr hf0 rfl) ?_;rintro ex a1 w1 ⟨x,e1,ds1,h1,m1,s1,q1,ι1,ad,hr1,hf1,hx⟩
 cases hx with
 | normal =>
  obtain⟨ev,r,hev,hl,hne,hR⟩:=q1 e1 s1;exact ZDJ (fun _ _ hp=>⟨r,hR,hp⟩) (ZFG hev hne ds1 .none h1 ι1 w1 _ _ hl (by simp) hr1 hf1.env hf1.df .none ad)
 | ret =>
  obtain⟨ev,r,hev,hl,hne,hR⟩:=q1 e1 s1;exact ZDJ (fun _ _ hp=>⟨r,hR,hp⟩) (ZFG hev hne ds1 .none h1 ι1 w1 _ _ hl (by simp) hr1 hf1.env hf1.df .none ad)
 | pan hv =>
  obtain⟨ev,r,hev,hl,hne,hR⟩:=q1 e1 s1;exact ZDJ (fun _ _ hp=>⟨r,hR,hp⟩) (ZFG hev hne ds1 _ h1 ι1 w1 _ _ hl (by simp) hr1 hf1.env hf1.df (.some hv) ad)
 | exit id=>exact q1.elim
 | goto l=>exact q1.elim
noncomputable def resk (P:Program)(h:Heap)(m:Mem):List ResultVar->Option (List Value)
 | []=>some []
 | .tmp t::l=>match m t,resk P h m l with
  | some v,some vs=>some (v::vs)
  | _,_=>none
 | .cell a t::l=>match m a with
  | some p=>match ZFI P t p h,resk P h m l with
   | some v,some vs=>some (v::vs)
   | _,_=>none
  | none=>none
theorem ZDc {h:Heap}{m:Mem}{e:Env}(hs:Sat m e):∀{l:List ResultVar}{vs:List Value},resk P h m l=some vs->resL P h e l=some vs
 | [],_,hv=>hv
 | .tmp t::l,vs,hv=>by
  simp only[resk] at hv
  split at hv
  ·rename_i v vs' h1 h2
   simp only[resL,ZO5,hs.get t v h1,ZDc hs h2];exact hv
  ·cases hv
 | .cell a t::l,vs,hv=>by
  simp only[resk] at hv
  split at hv
  ·rename_i p h1
   split at hv
   ·rename_i v vs' h2 h3
    simp only[resL,ZO5,hs.get a p h1,h2,ZDc hs h3];exact hv
   ·cases hv
  ·cases hv
theorem ZAD {fn:Func}{R:VS->Prop}{m:Mem}{h:Heap}{vs:List Value}(hr:resk P h m fn.results.toList=some vs)(hR:R (.ret (ZHX vs) h)):Lv P fn R .ret m [] h:=by
 intro e hs;refine⟨evNo,.ret (ZHX vs) h,ZGM P,?_,by simp,hR⟩;simp only[ZDD,ZDc hs hr]
theorem ZAz {fn:Func}{R:VS->Prop}{m:Mem}{h:Heap}{vs:List Value}(hr:resk P h m fn.results.toList=some vs)(hR:R (.ret (ZHX vs) h)):Lv P fn R .normal m [] h:=ZAD hr hR
section
variable {fr:Fr}{m:Mem}{ds:List ADef}{h:Heap}{Q:CQ}{ops:Array Oper}{l:List Oper}{o:Oper}
noncomputable def gk (ops:List Oper)(m:Mem)(g:Option (Nat×Bool)):Option Bool :=
 match g with
 | none=>some true
 | some (j,want) =>
  match nth ops j with
  | some oj=>match oj.dst with
   | some d=>match m d with
    | some (.bool b)=>some (b == want)
    | some _=>some false
    | none=>none
   | none=>some false
  | none=>some false
theorem ZEC {e:Env}(hs:Sat m e){ops:List Oper}{b:Bool}(hg:gk ops m o.guard=some b):gd ops o e=some b:=by
 unfold gd;unfold gk at hg
 split at hg
 ·rename_i h1;rw[h1];exact hg
 ·rename_i j want h1
  rw[h1];simp only
  split at hg
  ·rename_i oj h2
   rw[h2];simp only
   split at hg
   ·rename_i d h3
    rw[h3];simp only
    split at hg
    ·rename_i b' h4;rw[hs.get _ _ h4];exact hg
    ·rename_i v h4 h5;rw[hs.get _ _ h5];cases v <;> first|exact hg|exact absurd rfl (h4 _)
    ·cases hg
   ·rename_i h3;rw[h3];exact hg
  ·rename_i h2;rw[h2];exact hg
def ZDx:Op->Bool
 | .call c=>ZCR c.callee
 | .defer _=>false
 | .panic _=>false
 | _=>true
def Aop (P:Program)(o:Oper)(m:Mem)(h:Heap)(v:Value)(h1:Heap):Prop :=
 ∀e,Sat m e->∀(ι:Iota) (w:World) (a:Act),HR ι h w.heap->EnvR ι e a.tmps->OpS P ι h w (execOp a.eval o) v h1
theorem ZAe {v:Value}{h1:Heap}(hA:∀e,Sat m e->aop P o h e=.ok v h1):Aop P o m h v h1:=fun e hs _ _ _ hr he=>ZEJ hr he (hA e hs)
theorem ZTV {v:Value}{h1:Heap}{m1:Mem}(hg:gk ops.toList m o.guard=some true)(hp:ZDx o.op=true)(hput:∀e,Sat m e->∃e1,put VT fr o v e=some e1/\Sat m1 e1)(hA:Aop P o m h v h1)
  (hk:Wo P fr ops l m1 ds h1 Q):Wo P fr ops (o::l) m ds h Q:=by
 refine⟨?_⟩;intro k hd e hs ι0 h0 w0 ι w a F hr hfr hF ad0;have ho:ops[k]?=some o:=by
  have:ops.toList[k]?=some o:=by
   have h1:(ops.toList.drop k)[0]?=some o:=by rw[hd];rfl
   rw[List.getElem?_drop] at h1;simpa using h1
  simpa using this
 have hd':ops.toList.drop (k+1)=l:=by
  have:(ops.toList.drop k).drop 1=l:=by rw[hd];rfl
  rw[List.drop_drop] at this;exact this
 rw[List.length_cons,List.range'_succ,wpOpsIn_cons];unfold wpOpIn;simp only[ho];rw[ZBI hfr (ZEC hs hg)];simp only[if_true];have hnd:∀c',o.op≠.defer c':=fun c' he=>by rw[he] at hp;cases hp
 obtain⟨e1,hpt,s1⟩:=hput e hs;have hfin:fin VT fr o v e ds h1=.ok .normal e1 ds h1:=by simp only[fin,hpt]
 refine ZHE hF hnd hr hfr (hA e hs ι w a hr hfr.env) hfin ⟨fun _ ι2 _ a2 w2 _ ad hr2 hf2=>?_,fun v hv=>by cases hv⟩;exact hk.w (k+1) hd' e1 s1 ι0 h0 w0 ι2 w2 a2 F hr2 hf2 (hF.mono ad.sub) (ad0.trans ad)
theorem ZAV {d:Nat}{v:Value}{h1:Heap}(hg:gk ops.toList m o.guard=some true)(hp:ZDx o.op=true)(hd:o.dst=some d)(hlt:Nat.blt d fr.nt=true)(hA:Aop P o m h v h1)
  (hk:Wo P fr ops l (upd m d v) ds h1 Q):Wo P fr ops (o::l) m ds h Q :=
 ZTV hg hp (fun e hs=>⟨putE VT fr.fn d v e,by simp only[put,hd,hlt],hs.put fr.fn d v⟩) hA hk
theorem ZGe {v:Value}{h1:Heap}(hg:gk ops.toList m o.guard=some true)(hp:ZDx o.op=true)(hd:o.dst=none)(hA:Aop P o m h v h1)
  (hk:Wo P fr ops l m ds h1 Q):Wo P fr ops (o::l) m ds h Q :=
 ZTV hg hp (fun e hs=>⟨e,by simp only[put,hd],hs⟩) hA hk
theorem ZAx {d:Nat}{p:Prop} [Decidable p]{h1:Heap}(hg:gk ops.toList m o.guard=some true)(hp:ZDx o.op=true)(hd:o.dst=some d)(hlt:Nat.blt d fr.nt=true)(hA:Aop P o m h (.bool (decide p)) h1)
  (ht:p->Wo P fr ops l (upd m d (.bool true)) ds h1 Q) (hn:¬p->Wo P fr ops l (upd m d (.bool false)) ds h1 Q):Wo P fr ops (o::l) m ds h Q:=by
 by_cases hb:p
 ·rw[decide_eq_true hb] at hA;exact ZAV hg hp hd hlt hA (ht hb)
 ·rw[decide_eq_false hb] at hA;exact ZAV hg hp hd hlt hA (hn hb)
theorem ZTY {d:Nat}(hg:gk ops.toList m o.guard=some false)(hd:o.dst=some d)(hlt:Nat.blt d fr.nt=true)
  (hk:Wo P fr ops l (upd m d (.tuple ⟨[]⟩)) ds h Q):Wo P fr ops (o::l) m ds h Q :=
 ZUN (ZGM P) (fun e hs=>⟨putE VT fr.fn d (.tuple ⟨[]⟩) e,by
  rw[evOp,ZEC hs hg];simp only[fin,put,hd,hlt],hs.put fr.fn d _⟩) hk
theorem ZQa (hg:gk ops.toList m o.guard=some false)(hd:o.dst=none)(hk:Wo P fr ops l m ds h Q):Wo P fr ops (o::l) m ds h Q :=
 ZUN (ZGM P) (fun e hs=>⟨e,by
  rw[evOp,ZEC hs hg];simp only[fin,put,hd],hs⟩) hk
theorem ZQx {c:Call}{f:Operand}{g:FuncId}{first cap args:List Value}{R:VS->Prop}(hg:gk ops.toList m o.guard=some true)(hop:o.op=.call c)(hcal:c.callee=.value f)(hf:opk h m f=some (.func (.func g) ⟨first⟩ ⟨cap⟩))(ha:opkl h m c.args.toList=some args)
  (hb:ZAp P g=true) (hv:Sv P g (first++(args++cap)) h R)
  (hk:∀v h1,R (.ret v h1)->∀e,Sat m e->∃e1 m1,fin VT fr o v e ds h1=.ok .normal e1 ds h1/\Sat m1 e1/\Wo P fr ops l m1 ds h1 Q) (hpn:∀v h1,R (.pan v h1)->Q (.pan v) m ds h1):Wo P fr ops (o::l) m ds h Q:=by
 refine⟨?_⟩;intro k hd e hs ι0 h0 w0 ι w a F hr hfr hF ad0;have ho:ops[k]?=some o:=by
  have:ops.toList[k]?=some o:=by
   have h1:(ops.toList.drop k)[0]?=some o:=by rw[hd];rfl
   rw[List.getElem?_drop] at h1;simpa using h1
  simpa using this
 have hd':ops.toList.drop (k+1)=l:=by
  have:(ops.toList.drop k).drop 1=l:=by rw[hd];rfl
  rw[List.drop_drop] at this;exact this
 rw[List.length_cons,List.range'_succ,wpOpsIn_cons];unfold wpOpIn;simp only[ho];rw[ZBI hfr (ZEC hs hg)];simp only[if_true];have hnd:∀c',o.op≠.defer c':=fun c' he=>by rw[hop] at he;cases he
 have hex:(execOp a.eval o).run P w=(do let d <-resolve a.eval c o.type;invoke d.target d.args:Sem Next).run P w:=by unfold execOp;rw[hop]
 have hcall:ZDX P h e c=.fn g (first++(args++cap)):=by
  unfold ZDX;rw[hcal];simp only[ZAM hs hf,ZCu hs ha,hb]
 obtain⟨args',hva,hrun⟩:=ZDu (P:=P) hr hfr.env hcall o.type;refine⟨fun f _=>hF.fn f,?_⟩;rw[Oper.semAt_eq _ _ _ hnd,hex,hrun,Oper.uponIn_enter];refine⟨(fun hd=>by rw[hF.depth] at hd;cases hd),?_⟩;refine hF.calls ((hv.w ι w args' hr hva).mono ?_);rintro en w1 ⟨r,hR,hP⟩
 cases r with
 | no=>exact hP.elim
 | ret v h1 =>
  obtain⟨ι1,v',rfl,hvv,hr1,had⟩:=hP;obtain⟨e1,m1,hfin,s1,hW⟩:=hk v h1 hR e hs;refine ZCT (Q:=fun _ _ _=>True) hfin rfl had hr1 (hfr.mono had.sub) hvv ⟨fun _ ι2 _ a2 w2 _ ad hr2 hf2=>?_,fun v hv=>by cases hv⟩;exact hW.w (k+1) hd' e1 s1 ι0 h0 w0 ι2 w2 a2 F hr2 hf2 (hF.mono ad.sub) (ad0.trans ad)
 | pan v h1 =>
  obtain⟨ι1,v',rfl,hvv,hr1,had⟩:=hP;exact⟨.pan v,e,ds,h1,m,hs,hpn v h1 hR,ι1,ad0.trans had,hr1,hfr.mono had.sub,.pan hvv⟩
theorem ZAa {c:Call}{f:Operand}{g:FuncId}{first cap args:List Value}{R:Value->Heap->Prop}{d:Nat}(hg:gk ops.toList m o.guard=some true)(hop:o.op=.call c)(hcal:c.callee=.value f)(hf:opk h m f=some (.func (.func g) ⟨first⟩ ⟨cap⟩))(ha:opkl h m c.args.toList=some args)
  (hb:ZAp P g=true) (hd:o.dst=some d) (hlt:Nat.blt d fr.nt=true) (hv:Sv P g (first++(args++cap)) h (RetP R))
  (hk:∀v h1,R v h1->Wo P fr ops l (upd m d v) ds h1 Q):Wo P fr ops (o::l) m ds h Q :=
 ZQx hg hop hcal hf ha hb hv (fun v h1 hR e hs=>⟨putE VT fr.fn d v e,upd m d v,by simp only[fin,put,hd,hlt],hs.put fr.fn d v,hk v h1 hR⟩) (fun _ _ hR=>hR.elim)
end
variable {P:Program}{m:Mem}{h:Heap}{d:Option Tmp}{ty:TypeId}{pos:String}{af:Array Edge}{gu:Option (Nat×Bool)}
theorem ZDW {x:Operand}{v:Value}(hx:opk h m x=some v):Aop P ⟨d,.move x,ty,pos,af,gu⟩ m h v h :=
 ZAe fun e hs=>by show ZEt h e x=_;unfold ZEt;rw[ZAM hs hx]
theorem ZAj {x:Operand}{v:Value}(hx:opk h m x=some v):Aop P ⟨d,.assign x,ty,pos,af,gu⟩ m h v h :=
 ZAe fun e hs=>by show ZEt h e x=_;unfold ZEt;rw[ZAM hs hx]
theorem ZKH {c x y:Operand}{v:Value}(hc:opk h m c=some (.bool true))(hx:opk h m x=some v):Aop P ⟨d,.pick c x y,ty,pos,af,gu⟩ m h v h :=
 ZAe fun e hs=>by show ZKw h e c x y=_;unfold ZKw;rw[ZAM hs hc];show ZEt h e x=_;unfold ZEt;rw[ZAM hs hx]
theorem ZKG {c x y:Operand}{v:Value}(hc:opk h m c=some (.bool false))(hy:opk h m y=some v):Aop P ⟨d,.pick c x y,ty,pos,af,gu⟩ m h v h :=
 ZAe fun e hs=>by show ZKw h e c x y=_;unfold ZKw;rw[ZAM hs hc];show ZEt h e y=_;unfold ZEt;rw[ZAM hs hy]
theorem ZTF {x:Operand}{t:TypeId}{b:Bool}(hx:opk h m x=some (.bool b)):Aop P ⟨d,.unOp .not t x,ty,pos,af,gu⟩ m h (.bool (!b)) h :=
 ZAe fun e hs=>by show pUn P _ h e .not x=_;unfold pUn;rw[ZAM hs hx]
theorem ZCm {op:BinOp}{t tz:TypeId}{x y:Operand}{a b v:Value}(hx:opk h m x=some a)(hy:opk h m y=some b)(fa:flat a=true)(fb:flat b=true)(fv:flat v=true)
  (hrun:∀w,(do eqGuard op t x y a b;binOp op t a b:Sem Value).run P w=.ok v w):Aop P ⟨d,.binOp op t x y tz,ty,pos,af,gu⟩ m h v h:=by
 intro e hs ι w ac hr he;have hvx:=(ZAH hr he (ZAM hs hx)).flat_eq fa;have hvy:=(ZAH hr he (ZAM hs hy)).flat_eq fb;refine OpS.here hr ?_ (VR.of_flat ι fv);have:=hrun w;simp only[Sem.run_bind] at this;simp only[execOp,Sem.run_bind,hvx,hvy,this,Result.andThen_ok,Sem.run_pure]
section ints
variable {t tz:TypeId}{x y:Operand}{a b:Int}
theorem ZBA (op:BinOp)(t:TypeId)(x y:Operand)(k:IntKind)(a b:Int)(w:World):(eqGuard op t x y (.int k a) (.int k b)).run P w=.ok () w:=by cases op <;> rfl
theorem ZVT (hx:opk h m x=some (.int .i64 a))(hy:opk h m y=some (.int .i64 b))(h1:-9223372036854775808<=a+b)(h2:a+b<9223372036854775808):Aop P ⟨d,.binOp .add t x y tz,ty,pos,af,gu⟩ m h (.int .i64 (a+b)) h :=
 ZCm hx hy rfl rfl rfl fun w=>by
  have:IntKind.i64.wrap (a+b)=a+b:=IntWalk.i64_in _ (by omega);simp only[Sem.run_bind,ZBA,Result.andThen_ok];simp[binOp,Op.intArith,this]
theorem ZJs (hx:opk h m x=some (.int .i64 a))(hy:opk h m y=some (.int .i64 b))(h1:-9223372036854775808<=a-b)(h2:a-b<9223372036854775808):Aop P ⟨d,.binOp .sub t x y tz,ty,pos,af,gu⟩ m h (.int .i64 (a-b)) h :=
 ZCm hx hy rfl rfl rfl fun w=>by
  have:IntKind.i64.wrap (a-b)=a-b:=IntWalk.i64_in _ (by omega);simp only[Sem.run_bind,ZBA,Result.andThen_ok];simp[binOp,Op.intArith,this]
variable {k:IntKind}
theorem ZAU (hx:opk h m x=some (.int k a))(hy:opk h m y=some (.int k b)):Aop P ⟨d,.binOp .lss t x y tz,ty,pos,af,gu⟩ m h (.bool (decide (a<b))) h :=
 ZCm hx hy rfl rfl rfl fun w=>by simp only[Sem.run_bind,ZBA,Result.andThen_ok];simp[binOp,Op.intCmp]
theorem ZA4 (hx:opk h m x=some (.int k a))(hy:opk h m y=some (.int k b)):Aop P ⟨d,.binOp .gtr t x y tz,ty,pos,af,gu⟩ m h (.bool (decide (b<a))) h :=
 ZCm hx hy rfl rfl rfl fun w=>by simp only[Sem.run_bind,ZBA,Result.andThen_ok];simp[binOp,Op.intCmp]
theorem ZEL (hx:opk h m x=some (.int k a))(hy:opk h m y=some (.int k b)):Aop P ⟨d,.binOp .leq t x y tz,ty,pos,af,gu⟩ m h (.bool (decide (a<=b))) h :=
 ZCm hx hy rfl rfl rfl fun w=>by simp only[Sem.run_bind,ZBA,Result.andThen_ok];simp[binOp,Op.intCmp]
theorem ZFD (hx:opk h m x=some (.int k a))(hy:opk h m y=some (.int k b)):Aop P ⟨d,.binOp .geq t x y tz,ty,pos,af,gu⟩ m h (.bool (decide (b<=a))) h :=
 ZCm hx hy rfl rfl rfl fun w=>by simp only[Sem.run_bind,ZBA,Result.andThen_ok];simp[binOp,Op.intCmp]
theorem ZAg (hx:opk h m x=some (.int k a))(hy:opk h m y=some (.int k b)):Aop P ⟨d,.binOp .eql t x y tz,ty,pos,af,gu⟩ m h (.bool (decide (a=b))) h :=
 ZCm hx hy rfl rfl rfl fun w=>by simp only[Sem.run_bind,ZBA,Result.andThen_ok];simp[binOp,Op.intCmp];rfl
theorem ZAh (hx:opk h m x=some (.int k a))(hy:opk h m y=some (.int k b)):Aop P ⟨d,.binOp .neq t x y tz,ty,pos,af,gu⟩ m h (.bool (decide (¬a=b))) h :=
 ZCm hx hy rfl rfl rfl fun w=>by simp only[Sem.run_bind,ZBA,Result.andThen_ok];simp[binOp,Op.intCmp,bne];rfl
end ints
noncomputable def ZAS (h:Heap)(b o:Nat):Option Value :=
 match h.get b with
 | some (.cells vs _ _)=>nth vs o
 | some (.ro lim ob)=>match rdo lim ob o 1 with|some [v]=>some v|_=>none
 | _=>none
noncomputable def ZAw (h:Heap)(b o n:Nat):Option (List Value) :=
 match h.get b with
 | some (.cells vs _ _)=>cut vs o n
 | some (.ro lim ob)=>rdo lim ob o n
 | _=>none
def One (P:Program)(t:TypeId):Prop:=∃ds,P.underlying t=some ds/\ZDa ds=false
def Row (P:Program)(t:TypeId)(n:Nat):Prop:=∃ds,P.underlying t=some ds/\ZDa ds=true/\tsz P t=some n
theorem ZVR {t:TypeId}{x:Operand}{b o:Nat}{v:Value}(ht:One P t)(hx:opk h m x=some (.pointer (some ⟨b,o,none⟩)))(hc:ZAS h b o=some v):Aop P ⟨d,.load t x,ty,pos,af,gu⟩ m h v h :=
 ZAe fun e hs=>by
  obtain⟨ds,hu,hrw⟩:=ht
  show ZKm P h e t x=_
  unfold ZKm;rw[ZAM hs hx];have:ZFI P t (.pointer (some ⟨b,o,none⟩)) h=some v:=by
   unfold ZAS at hc;unfold ZFI;simp only
   split at hc
   ·rename_i vs _ _ hg;simp only[hg,hu,hrw];exact hc
   ·rename_i lim ob hg;simp only[hg,hu,hrw];exact hc
   ·cases hc
  simp only[this]
theorem ZT3 {t:TypeId}{x:Operand}{b o n:Nat}{vs:List Value}(ht:Row P t n)(hx:opk h m x=some (.pointer (some ⟨b,o,none⟩)))(hc:ZAw h b o n=some vs):Aop P ⟨d,.load t x,ty,pos,af,gu⟩ m h (.agg ⟨vs⟩) h :=
 ZAe fun e hs=>by
  obtain⟨ds,hu,hrw,hz⟩:=ht
  show ZKm P h e t x=_
  unfold ZKm;rw[ZAM hs hx];have:ZFI P t (.pointer (some ⟨b,o,none⟩)) h=some (.agg ⟨vs⟩):=by
   unfold ZAw at hc;unfold ZFI;simp only
   split at hc
   ·rename_i vs _ _ hg;simp only[hg,hu,hrw,hz,hc]
   ·rename_i lim ob hg;simp only[hg,hu,hrw,hz,hc]
   ·cases hc
  simp only[this]
theorem ZCI {t:TypeId}{x:Operand}{f off b o:Nat}(hf:ZHB P t f=some off)(hx:opk h m x=some (.pointer (some ⟨b,o,none⟩))):Aop P ⟨d,.fieldAddr t x f,ty,pos,af,gu⟩ m h (.pointer (some ⟨b,o+off,none⟩)) h :=
 ZAe fun e hs=>by
  show ZCi P h e t x f=_
  unfold ZCi;rw[ZAM hs hx];simp only[ZEe,hf]
  rfl
theorem ZAE {t el:TypeId}{x i:Operand}{b o n len cap k:Nat}{oa:Option Nat}{ki:IntKind}{z:Int}(ht:P.underlying t=some (.slice el))(hz:tsz P el=some n)(hx:opk h m x=some (.slice (some ⟨b,o,oa⟩) len cap))(hi:opk h m i=some (.int ki z))(hk:z=(k:Int))(hlt:k<len) :
  Aop P ⟨d,.indexAddr t x i,ty,pos,af,gu⟩ m h (.pointer (some ⟨b,o+k*n,none⟩)) h :=
 ZAe fun e hs=>by
  subst hk
  show ZB2 P h e t x i=_
  unfold ZB2;rw[ZAM hs hx,ZAM hs hi];have hb:Nat.blt k len=true:=by rw[Nat.blt_eq];exact hlt
  show (match ZCJ P t (.slice (some ⟨b,o,oa⟩) len cap) (.int ki (Int.ofNat k)) with|some v=>AR.ok v h|none=>.no)=_
  simp only[ZCJ,ZEA,ht,hb,hz]
  rfl
theorem ZRJ {x:Operand}{t:TypeId}{ts:List TypeId}{el:TypeId}{a:Option Addr}{len cap:Nat}{c:Call}(hc:c.callee=.builtin .len)(hargs:c.args=#[x])(hat:c.argTypes.toList=t::ts)(ht:P.underlying t=some (.slice el))
  (hx:opk h m x=some (.slice a len cap)):Aop P ⟨d,.call c,ty,pos,af,gu⟩ m h (.int .i64 (len:Int)) h :=
 ZAe fun e hs=>by
  show ZEo P _ h e c=_
  unfold ZEo;rw[hc];simp only[hargs,hat,ZCC,ZAM hs hx,alen,ht];rfl
theorem ZJ3 {x:Operand}{t:TypeId}{ts:List TypeId}{l:List UInt8}{c:Call}(hc:c.callee=.builtin .len)(hargs:c.args=#[x])(hat:c.argTypes.toList=t::ts)(ht:P.underlying t=some .string)
  (hx:opk h m x=some (.string ⟨⟨l⟩⟩)):Aop P ⟨d,.call c,ty,pos,af,gu⟩ m h (.int .i64 (l.length:Int)) h :=
 ZAe fun e hs=>by
  show ZEo P _ h e c=_
  unfold ZEo;rw[hc];simp only[hargs,hat,ZCC,ZAM hs hx,alen,ht];rfl
theorem ZVn {t:TypeId}{x:Operand}{v:Value}(hx:opk h m x=some v):Aop P ⟨d,.box t x,ty,pos,af,gu⟩ m h (.pointer (some ⟨h.nx,0,none⟩)) (h.add (.cells v.cells.toList t false)) :=
 ZAe fun e hs=>by
  show pBox h e t x=_
  unfold pBox;rw[ZAM hs hx]
  rfl
theorem ZUf {t:TypeId}{z:Value}(hz:ZA9 P t=some z):Aop P ⟨d,.alloc t,ty,pos,af,gu⟩ m h (.pointer (some ⟨h.nx,0,none⟩)) (h.add (.cells z.cells.toList t false)) :=
 ZAe fun e hs=>by
  show ZJL P t h=_
  unfold ZJL;rw[hz]
  rfl
theorem ZRM {t:TypeId}{x y:Operand}{b o n:Nat}{v:Value}{vs r:List Value}{el:TypeId}{op:Bool}(ht:tsz P t=some n)(hx:opk h m x=some (.pointer (some ⟨b,o,none⟩)))(hy:opk h m y=some v)(hg:h.get b=some (.cells vs el op))(hn:v.cells.toList.length=n)(h1:allOne v.cells.toList=true)(hl:lay vs o v.cells.toList=some r) :
  Aop P ⟨d,.store t x y,ty,pos,af,gu⟩ m h (.tuple ⟨[]⟩) (h.set b (.cells r el op)) :=
 ZAe fun e hs=>by
  show ZLp P h e t x y=_
  unfold ZLp;rw[ZAM hs hx,ZAM hs hy];have hb:Nat.beq v.cells.toList.length n=true:=by rw[hn];exact Nat.beq_refl n
  simp only[ZNs,hg,ht,hb,h1,hl]
theorem ZUl {f:FuncId}{a b:Array Operand}{x y:List Value}(ha:opkl h m a.toList=some x)(hb:opkl h m b.toList=some y):Aop P ⟨d,.makeFunc (.func f) a b,ty,pos,af,gu⟩ m h (.func (.func f) ⟨x⟩ ⟨y⟩) h :=
 ZAe fun e hs=>by
  show ZOi h e (.func f) a b=_
  unfold ZOi;rw[ZCu hs ha,ZCu hs hb]
theorem ZT1 {t:TypeId}:Aop P ⟨d,.makeMap t none,ty,pos,af,gu⟩ m h (.map (some h.nx)) (h.add (.map [] 0)) :=
 ZAe fun e hs=>rfl
theorem ZKU {x:Operand}{i:Nat}{l:List Value}{v:Value}(hx:opk h m x=some (.tuple ⟨l⟩))(hi:nth l i=some v):Aop P ⟨d,.extract x i,ty,pos,af,gu⟩ m h v h :=
 ZAe fun e hs=>by
  show ZEl h e x i=_
  unfold ZEl;rw[ZAM hs hx];simp only[hi]
end Go.Dw
namespace Go.Dw
open Go.Dx (Fr Iota HR FR FenR Adv VR VRL DR Env Heap AO ADef ZDK lk lkL ZBE ZCW ZF6 putE put EI EnvR OpS ZJZ ZFA XR VS EvOK Done Ix ZKD NK DI Ls ZAr ZDp ZDH ZM7 ZB7 ZDv ZIQ ZKh qsOk ZGg ixs ZJF ZDV ZD0 ZEq ZE1 ZRg hz ZD8 ZFL ZFK ZIN ZAd ZA8 ZEU ZDN ZOI gd ZBI ZCP ZAm ZBy ZKW view ZEX ZFM ZLN scrub ZII ZJH ZCR ZAp ZDX ZDu nth BI Rg ZAH ZEZ)
variable {P:Program}
def ZEp (fr:Fr)(o:Oper):Bool:=match o.dst with
 | none=>true
 | some d=>Nat.blt d fr.nt
def updO (m:Mem)(o:Oper)(v:Value):Mem:=match o.dst with
 | none=>m
 | some d=>upd m d v
structure ZUx (o:Oper)(a:Act) (ι:Iota)(h:Heap)(w:World)(K Kp:Value->List ADef->Heap->Prop)(Kx:Act->World->Prop)(Qx:Exit->Act->World->Prop):Prop where
 normal:∀v ds1 h1,K v ds1 h1->∀(ι':Iota) (v':Value) (a':Act) (w':World),a'.tmps=(a.put o.dst v').tmps->VR ι' v v'->Adv ι h w ι' h1 w'->HR ι' h1 w'.heap->DR ι' ds1 a'.defers->Kx a' w'
 pan:∀v ds1 h1,Kp v ds1 h1->∀(ι':Iota) (v':Value) (w':World),VR ι' v v'->Adv ι h w ι' h1 w'->HR ι' h1 w'.heap->DR ι' ds1 a.defers->Qx (.panic [{ v:=v',recovered:=false }]) a w'
structure W1 (P:Program)(fr:Fr)(ops:Array Oper)(o:Oper)(m:Mem)(ds:List ADef)(h:Heap)(K Kp:Value->List ADef->Heap->Prop):Prop where
 w:∀k,ops[k]?=some o->∀e:Env,Sat m e->∀(ι:Iota) (w:World) (a:Act) (F:Fence),HR ι h w.heap->FR VT fr ι e ds a->FenR ι fr.rd F →
  ∀(Kx:Act->World->Prop) (Qx:Exit->Act->World->Prop),ZUx o a ι h w K Kp Kx Qx->wpOpIn F 0 P ops Qx k Kx a w
section
variable {fr:Fr}{ops:Array Oper}{o:Oper}{m:Mem}{ds:List ADef}{h:Heap}{K Kp:Value->List ADef->Heap->Prop}
theorem ZBX (a:Act)(d:Option Tmp)(v:Value):(a.put d v).defers=a.defers:=by cases d <;> rfl
theorem ZCU {v:Value}{h1:Heap}(hg:gk ops.toList m o.guard=some true)(hp:ZDx o.op=true)(hA:Aop P o m h v h1)(hk:K v ds h1):W1 P fr ops o m ds h K Kp:=by
 refine⟨?_⟩;intro k ho e hs ι w a F hr hfr hF Kx Qx T;unfold wpOpIn;simp only[ho];rw[ZBI hfr (ZEC hs hg)];simp only[if_true];have hnd:∀c',o.op≠.defer c':=fun c' he=>by rw[he] at hp;cases hp
 obtain⟨ι',v',w',hrun,hv,hr',ha⟩:=hA e hs ι w a hr hfr.env;refine⟨fun f _=>hF.fn f,?_⟩;rw[Oper.semAt_eq _ _ _ hnd]
 rcases hrun with hrun|⟨hrun,rfl⟩
 ·rw[hrun,Oper.uponIn_value]
  exact T.normal v ds h1 hk ι' v' _ w' rfl hv ha hr' (by rw[ZBX];exact hfr.df.mono ha.sub)
 ·rw[hrun,Oper.uponIn_skip]
  exact T.normal v ds h1 hk ι' _ _ w' rfl hv ha hr' (by rw[ZBX];exact hfr.df.mono ha.sub)
theorem ZCq (hg:gk ops.toList m o.guard=some false)(hk:K (.tuple ⟨[]⟩) ds h):W1 P fr ops o m ds h K Kp:=by
 refine⟨?_⟩;intro k ho e hs ι w a F hr hfr hF Kx Qx T;unfold wpOpIn;simp only[ho];rw[ZBI hfr (ZEC hs hg)];simp only[Bool.false_eq_true,if_false];exact⟨fun f _=>hF.fn f,T.normal _ ds h hk ι _ _ w rfl (.tup .nil) (.refl _ _ _) hr (by rw[ZBX];exact hfr.df)⟩
theorem ZEO {c:Call}{f:Operand}{g:FuncId}{first cap args:List Value}{R:VS->Prop}(hg:gk ops.toList m o.guard=some true)(hop:o.op=.call c)(hcal:c.callee=.value f)(hf:opk h m f=some (.func (.func g) ⟨first⟩ ⟨cap⟩))(ha:opkl h m c.args.toList=some args)
  (hb:ZAp P g=true) (hv:Sv P g (first++(args++cap)) h R)
  (hk:∀v h1,R (.ret v h1)->K v ds h1) (hpn:∀v h1,R (.pan v h1)->Kp v ds h1):W1 P fr ops o m ds h K Kp:=by
 refine⟨?_⟩;intro k ho e hs ι w a F hr hfr hF Kx Qx T;unfold wpOpIn;simp only[ho];rw[ZBI hfr (ZEC hs hg)];simp only[if_true];have hnd:∀c',o.op≠.defer c':=fun c' he=>by rw[hop] at he;cases he
 have hex:(execOp a.eval o).run P w=(do let d <-resolve a.eval c o.type;invoke d.target d.args:Sem Next).run P w:=by unfold execOp;rw[hop]
 have hcall:ZDX P h e c=.fn g (first++(args++cap)):=by
  unfold ZDX;rw[hcal];simp only[ZAM hs hf,ZCu hs ha,hb]
 obtain⟨args',hva,hrun⟩:=ZDu (P:=P) hr hfr.env hcall o.type;refine⟨fun f _=>hF.fn f,?_⟩;rw[Oper.semAt_eq _ _ _ hnd,hex,hrun,Oper.uponIn_enter];refine⟨(fun hd=>by rw[hF.depth] at hd;cases hd),?_⟩;refine hF.calls ((hv.w ι w args' hr hva).mono ?_);rintro en w1 ⟨r,hR,hP⟩
 cases r with
 | no=>exact hP.elim
 | ret v h1 =>
  obtain⟨ι1,v',rfl,hvv,hr1,had⟩:=hP;exact T.normal v ds h1 (hk v h1 hR) ι1 v' _ w1 rfl hvv had hr1 (by rw[ZBX];exact hfr.df.mono had.sub)
 | pan v h1 =>
  obtain⟨ι1,v',rfl,hvv,hr1,had⟩:=hP;exact T.pan v ds h1 (hpn v h1 hR) ι1 v' w1 hvv had hr1 (hfr.df.mono had.sub)
theorem ZIg {ι':Iota}{e:Env}{a a':Act}{v v':Value}{ds1:List ADef}(hf:FR VT fr ι' e ds a)(hs:Sat m e)(hd:ZEp fr o=true)(ht:a'.tmps=(a.put o.dst v').tmps)(hv:VR ι' v v')(hdf:DR ι' ds1 a'.defers) :
  ∃e1,put VT fr o v e=some e1/\Sat (updO m o v) e1/\FR VT fr ι' e1 ds1 a':=by
 have hsz:a'.tmps.size=fr.nt:=by rw[ht,<-hf.sz];cases o.dst <;> simp[Act.put]
 unfold ZEp at hd
 cases hq:o.dst with
 | none =>
  rw[hq] at ht;refine⟨e,by simp only[put,hq],by simp only[updO,hq];exact hs,⟨?_,hf.ei,hsz,hdf⟩⟩;rw[ht];exact hf.env
 | some d =>
  rw[hq] at hd ht;simp only at hd;have hlt:d<fr.nt:=Nat.le_of_ble_eq_true hd;refine⟨putE VT fr.fn d v e,by simp only[put,hq,hd],by simp only[updO,hq];exact hs.put fr.fn d v,⟨?_,hf.ei.putE d v,hsz,hdf⟩⟩;intro t u hu;rw[ZBy hf.ei] at hu;rw[ht]
  by_cases hdt:d=t
  ·subst hdt
   simp at hu;subst hu;exact⟨v',by simp[Act.put,hf.sz,hlt],hv⟩
  ·rw[if_neg hdt] at hu
   obtain⟨u',h1,h2⟩:=hf.env t u hu;exact⟨u',by simp only[Act.put];rw[Array.getElem?_setIfInBounds_ne hdt];exact h1,h2⟩
theorem ZNg {l:List Oper}{Q:CQ}(hw:W1 P fr ops o m ds h (fun v ds1 h1=>Wo P fr ops l (updO m o v) ds1 h1 Q) (fun v ds1 h1=>Q (.pan v) m ds1 h1))(hd:ZEp fr o=true):Wo P fr ops (o::l) m ds h Q:=by
 refine⟨?_⟩;intro k hdr e hs ι0 h0 w0 ι w a F hr hfr hF ad0;have ho:ops[k]?=some o:=by
  have:ops.toList[k]?=some o:=by
   have h1:(ops.toList.drop k)[0]?=some o:=by rw[hdr];rfl
   rw[List.getElem?_drop] at h1;simpa using h1
  simpa using this
 have hd':ops.toList.drop (k+1)=l:=by
  have:(ops.toList.drop k).drop 1=l:=by rw[hdr];rfl
  rw[List.drop_drop] at this;exact this
 rw[List.length_cons,List.range'_succ,wpOpsIn_cons];refine hw.w k ho e hs ι w a F hr hfr hF _ _ ⟨fun v ds1 h1 hW ι' v' a' w' ht hv ad hr1 hdf=>?_,fun v ds1 h1 hQ ι' v' w' hv ad hr1 hdf=>?_⟩
 ·obtain⟨e1,_,s1,f1⟩:=ZIg (hfr.mono ad.sub) hs hd ht hv hdf
  exact hW.w (k+1) hd' e1 s1 ι0 h0 w0 ι' w' a' F hr1 f1 (hF.mono ad.sub) (ad0.trans ad)
 ·exact⟨.pan v,e,ds1,h1,m,hs,hQ,ι',ad0.trans ad,hr1,⟨hfr.env.mono ad.sub,hfr.ei,hfr.sz,hdf⟩,.pan hv⟩
end
def memb (t:Nat):List Nat->Bool
 | []=>false
 | x::l=>cond (Nat.beq t x) true (memb t l)
theorem ZHF {t:Nat}:∀{l:List Nat},memb t l=true ↔ t∈l
 | []=>by simp[memb]
 | x::l=>by
  simp only[memb,List.mem_cons];cases hb:Nat.beq t x
  ·have:t≠x:=fun e=>by subst e;simp at hb
   simp[this,ZHF]
  ·have:t=x:=Nat.eq_of_beq_eq_true hb
   simp[this]
def ZB4 (m:Mem)(l:List Nat):Mem:=fun t=>cond (memb t l) (m t) none
theorem ZJE {m:Mem}{l:List Nat}{t:Nat}{v:Value}(h:ZB4 m l t=some v):t∈l/\m t=some v:=by
 unfold ZB4 at h;cases hb:memb t l
 ·rw[hb] at h;cases h
 ·rw[hb] at h;exact⟨ZHF.1 hb,h⟩
theorem ZMy {m m':Mem}{l:List Nat}(h:∀t∈l,m t=m' t):ZB4 m l=ZB4 m' l:=by
 funext t
 unfold ZB4;cases hb:memb t l
 ·rfl
 ·exact h t (ZHF.1 hb)
noncomputable def viewV (e:Env)(l:List Tmp):Env:=⟨[],ZD8 e l⟩
theorem ZRx (t:Nat)(e:Env)(l:List Tmp):lk t (ZFL e l)=lkL t (ZD8 e l):=by
 show lk t ⟨ZD8 e l,[]⟩=_
 rw[ZF6];simp only;cases lkL t (ZD8 e l) <;> rfl
theorem ZN0 (t:Nat)(e:Env)(l:List Tmp):lk t (viewV e l)=lkL t (ZD8 e l):=by
 show lk t ⟨[],ZD8 e l⟩=_
 rw[ZF6];rfl
theorem ZHL {e:Env}{t:Nat}{v:Value}(h:lk t e=some v):∀{l:List Tmp},t∈l->lkL t (ZD8 e l)=some v
 | x::l,hm=>by
  rw[Dx.viewL_cons]
  by_cases hx:x=t
  ·subst hx
   rw[h];simp only;rw[ZBE];simp
  ·have hm':t∈l:=by
    rcases List.mem_cons.1 hm with g|g
    ·exact absurd g.symm hx
    ·exact g
   cases hq:lk x e with
   | none=>exact ZHL h hm'
   | some u=>simp only;rw[ZBE,if_neg hx];exact ZHL h hm'
theorem Sat.viewV {m:Mem}{e:Env}(h:Sat m e)(l:List Tmp):Sat (ZB4 m l) (viewV e l):=⟨rfl,fun t v hv=>by
 obtain⟨h1,h2⟩:=ZJE hv;rw[ZN0];exact ZHL (h.get t v h2) h1⟩
theorem ZMG (fn:FuncId)(e:Env):∀(l:List Tmp),(view VT fn e l).te=[]
 | []=>rfl
 | x::l=>by
  rw[ZFM]
  cases hq:lk x e with
  | none=>exact ZMG fn e l
  | some u=>show (⟨(view VT fn e l).te,_⟩:Env).te=[];exact ZMG fn e l
theorem ZJ8 {fn:FuncId}{e:Env}{t:Nat}{v:Value}(h:lk t e=some v):∀{l:List Tmp},t∈l->lk t (view VT fn e l)=some v
 | x::l,hm=>by
  rw[ZFM]
  by_cases hx:x=t
  ·subst hx
   rw[h];simp only;rw[ZBy (ZEX l).1];simp
  ·have hm':t∈l:=by
    rcases List.mem_cons.1 hm with g|g
    ·exact absurd g.symm hx
    ·exact g
   cases hq:lk x e with
   | none=>exact ZJ8 h hm'
   | some u=>simp only;rw[ZBy (ZEX l).1,if_neg hx];exact ZJ8 h hm'
theorem Sat.view {m:Mem}{e:Env}(h:Sat m e)(fn:FuncId)(l:List Tmp):Sat (ZB4 m l) (Dx.view VT fn e l):=⟨ZMG fn e l,fun t v hv=>by
 obtain⟨h1,h2⟩:=ZJE hv;exact ZJ8 (h.get t v h2) h1⟩
def QA (P:Program)(ops:Array Oper)(m:Mem)(h:Heap)(d:Done):Prop :=
 (gk ops.toList (ZB4 m (d.x.o.looksAt ops)) d.x.o.guard=some false/\d.b=none/\d.v=.tuple ⟨[]⟩) ∨
 (gk ops.toList (ZB4 m (d.x.o.looksAt ops)) d.x.o.guard=some true/\ZD0 d.x.o.op=.pure/\d.b=none/\∀bg,Aop P d.x.o (ZB4 m (d.x.o.looksAt ops)) (hz bg h) d.v (hz bg h)) ∨
 (gk ops.toList (ZB4 m (d.x.o.looksAt ops)) d.x.o.guard=some true/\ZD0 d.x.o.op=.alloc/\∃b nk ao,d.b=some (b,nk,ao)/\(∀bg e,Sat (ZB4 m (d.x.o.looksAt ops)) e->ZEq P d.x.o (hz bg h) e=some (nk,ao))/\d.v=nk.mk b)
def ZSX (P:Program)(ops:List Oper)(h:Heap)(d:Done)(e:Env):Prop :=
 (gd ops d.x.o e=some false/\d.b=none/\d.v=.tuple ⟨[]⟩) ∨
 (gd ops d.x.o e=some true/\ZD0 d.x.o.op=.pure/\d.b=none/\∀(ι:Iota) (w:World) (a:Act),HR ι h w.heap->EnvR ι e a.tmps->OpS P ι h w (execOp a.eval d.x.o) d.v h) ∨
 (gd ops d.x.o e=some true/\ZD0 d.x.o.op=.alloc/\∃b nk ao,d.b=some (b,nk,ao)/\ZEq P d.x.o h e=some (nk,ao)/\d.v=nk.mk b)
structure ZPD (P:Program)(bg:Nat)(ops:Array Oper)(h:Heap)(e:Env)(d:Done):Prop where
 slot:∀t,d.x.o.dst=some t->lk t e=some d.v
 at':ZSX P ops.toList (hz bg h) d (viewV e (d.x.o.looksAt ops))
theorem QA.still {ops:Array Oper}{m:Mem}{h:Heap}{d:Done}{e:Env}(hq:QA P ops m h d)(hsl:∀t,d.x.o.dst=some t->m t=some d.v)(hs:Sat m e)(bg:Nat):ZPD P bg ops h e d:=by
 refine⟨fun t ht=>hs.get t _ (hsl t ht),?_⟩;have hv:=hs.viewV (d.x.o.looksAt ops)
 rcases hq with ⟨h1,h2,h3⟩|⟨h1,h2,h3,h4⟩|⟨h1,h2,b,nk,ao,h3,h4,h5⟩
 ·exact .inl ⟨ZEC hv h1,h2,h3⟩
 ·exact .inr (.inl ⟨ZEC hv h1,h2,h3,fun ι w a hr he=>h4 bg _ hv ι w a hr he⟩)
 ·exact .inr (.inr ⟨ZEC hv h1,h2,b,nk,ao,h3,h4 bg _ hv,h5⟩)
theorem QA.keep {ops:Array Oper}{m m':Mem}{h h':Heap}{d:Done}(hq:QA P ops m h d)(ht:h'.t=h.t)(hg:h'.gl=h.gl)(hl:∀t∈d.x.o.looksAt ops,m' t=m t):QA P ops m' h' d:=by
 have h1:∀bg,hz bg h'=hz bg h:=fun bg=>by unfold hz;rw[ht,hg]
 have h2:ZB4 m' (d.x.o.looksAt ops)=ZB4 m (d.x.o.looksAt ops):=ZMy hl;unfold QA;simp only[h2,h1];exact hq
def bump (b:Option (Nat×NK×AO))(h:Heap):Heap:=match b with
 | none=>h
 | some _=>⟨h.t,Nat.succ h.nx,h.gl⟩
def WQ (P:Program)(fr:Fr)(ops:Array Oper):List Ix->List Done->Mem->Heap->(List Done->Mem->Heap->Prop)->Prop
 | [],dn,m,h,K=>K dn m h
 | x::l,dn,m,h,K=>∃v b,ZEp fr x.o=true/\QA P ops m h ⟨x,v,b⟩/\(∀c nk ao,b=some (c,nk,ao)->c=h.nx)/\WQ P fr ops l (⟨x,v,b⟩::dn) (updO m x.o v) (bump b h) K
def ZJJ (ops:Array Oper)(m:Mem):Mem:=fun t=>cond (ops.toList.all fun o=>match o.dst with|some d=>!Nat.beq d t|none=>true) (m t) none
def WD (P:Program)(fr:Fr)(ops:Array Oper)(Q:CQ):List ZKD->List Done->Mem->List ADef->Heap->Prop
 | [],_,_,_,_=>False
 | ph::phs,dn,m,ds,h=>WQ P fr ops ph.qs dn m h fun dn' m' h' =>
   (∀d∈dn,QA P ops m' h' d/\∀t,d.x.o.dst=some t->m' t=some d.v) ∧
   match ph.ef with
   | none=>Q .normal m' ds (ZA8 dn' h')
   | some x=>ZEp fr x.o=true/\W1 P fr ops x.o (ZB4 m' (x.o.looksAt ops)) ds (ZA8 (dn'.filter (ZAd x)) h') (fun v ds1 h1=>WD P fr ops Q phs (dn'.filter fun d=>!ZAd x d) (updO m' x.o v) ds1 h1) (fun v ds1 h1=>Q (.pan v) (ZJJ ops m') ds1 h1)
section
variable {fr:Fr}{ops:Array Oper} {ι ι0:Iota}{h0:Heap}{w0:World}{T:Nat}{dn:List Done}{e:Env}{ds:List ADef}{h H:Heap}{listed:Array Bool}{a:Act}{w:World}{bg:Nat}
theorem ZOu {qs:List Ix}{T':Nat}{new:List Done}{e':Env}{h':Heap}(I:DI VT fr ops ι0 h0 w0 T dn e ds h H listed ι a w)
  (n2:∀d∈new,d.x∈qs) (n3:∀x∈qs,∃d∈new,d.x=x) (n4:∀d∈new,∀d'∈new,d.x.i=d'.x.i->d=d') (n5:EI VT fr.fn e') (n6:∀x∈qs,∀t,x.o.dst=some t->t<fr.nt)
  (n7:∀t v,lk t e'=some v->(∃x∈qs,x.o.dst=some t)\/lk t e=some v) (n8:h'.t=h.t) (n9:h'.gl=h.gl) (n10:h.nx<=h'.nx)
  (n11:∀d∈new,∀b nk ao,d.b=some (b,nk,ao)->h.nx<=b/\b<h'.nx/\True) (n12:∀d∈new,∀d'∈new,∀b nk ao nk' ao',d.b=some (b,nk,ao)->d'.b=some (b,nk',ao')->d=d')
  (n13:∀x∈qs,Nat.testBit T x.i=false/\ZDV x=false) (n14:∀j,Nat.testBit T' j=true ↔ (Nat.testBit T j=true\/∃x∈qs,x.i=j))
  (hm:∀x∈qs,x∈ixs ops.toList):DI VT fr ops ι0 h0 w0 T' (new++dn) e' ds h' ⟨H.t,h'.nx,H.gl⟩ listed ι a w:=by
 have hT:∀k,T.testBit k=true->T'.testBit k=true:=fun k hk=>(n14 k).2 (.inl hk)
 have hnl:∀d∈new,¬Ls listed d.x.i:=fun d hd hl=>by
  have h1:=(n13 _ (n2 d hd)).1;have h2:=I.sub _ hl;rw[h1] at h2;cases h2
 have hget:∀b,h'.get b=h.get b:=fun b=>by unfold Heap.get;rw[n8]
 have hgetH:∀b,(⟨H.t,h'.nx,H.gl⟩:Heap).get b=H.get b:=fun b=>rfl;have hnle:H.nx<=h'.nx:=by rw[I.nx];exact n10
 refine⟨I.lsz,I.closed,fun k hk=>hT k (I.sub k hk),?_,?_,?_,?_,?_,n5,I.sz,I.df,?_,?_,rfl,?_,?_,?_,?_,?_,?_⟩
 ·intro x hx hxT hxe
  rcases (n14 x.i).1 hxT with g|⟨y,g1,g2⟩
  ·exact I.eff x hx g hxe
  ·have:y=x:=ZDp (hm y g1) hx g2
   subst this;have:=(n13 y g1).2;rw[this] at hxe;cases hxe
 ·intro d hd
  rcases List.mem_append.1 hd with g|g
  ·exact⟨hm _ (n2 d g),(n14 _).2 (.inr ⟨d.x,n2 d g,rfl⟩),n6 _ (n2 d g)⟩
  ·obtain⟨a1,a2,a3⟩:=I.dnin d g
   exact⟨a1,hT _ a2,a3⟩
 ·intro x hx hxT hxl
  rcases (n14 x.i).1 hxT with g|⟨y,g1,g2⟩
  ·obtain⟨d,a1,a2⟩:=I.cov x hx g hxl
   exact⟨d,List.mem_append_right _ a1,a2⟩
  ·have:y=x:=ZDp (hm y g1) hx g2
   subst this;obtain⟨d,a1,a2⟩:=n3 y g1;exact⟨d,List.mem_append_left _ a1,a2⟩
 ·intro d hd d' hd' heq
  rcases List.mem_append.1 hd with g|g <;> rcases List.mem_append.1 hd' with g'|g'
  ·exact n4 d g d' g' heq
  ·exfalso
   have h1:=(n13 _ (n2 d g)).1;have h2:=(I.dnin d' g').2.1;rw[heq,h2] at h1;cases h1
  ·exfalso
   have h1:=(n13 _ (n2 d' g')).1;have h2:=(I.dnin d g).2.1;rw[<-heq,h2] at h1;cases h1
  ·exact I.uniq d g d' g' heq
 ·intro t v hv
  rcases n7 t v hv with ⟨x,g1,g2⟩|g
  ·obtain⟨d,a1,a2⟩:=n3 x g1
   exact .inl ⟨x,hm x g1,(n14 _).2 (.inr ⟨x,g1,rfl⟩),by rw[<-a2];exact hnl d a1,g2⟩
  ·rcases I.slots t v g with ⟨x,a1,a2,a3,a4⟩|g
   ·exact .inl ⟨x,a1,hT _ a2,a3,a4⟩
   ·exact .inr g
 ·exact⟨I.hr.obj,I.hr.inj,fun b bi hb=>Nat.lt_of_lt_of_le (I.hr.fresh b bi hb) hnle,I.hr.glo,Nat.le_trans I.hr.gn hnle⟩
 ·exact⟨I.adv.sub,I.adv.sz,I.adv.fr,I.adv.dm,Nat.le_trans I.adv.nx hnle,I.adv.old,I.adv.gl,I.adv.os,I.adv.out,I.adv.dr⟩
 ·rw[n9];exact I.gl
 ·intro b o hb
  rw[hget] at hb;exact I.hin b o hb
 ·intro d hd hl b nk ao hb
  rcases List.mem_append.1 hd with g|g
  ·exact absurd hl (hnl d g)
  ·exact I.lay d g hl b nk ao hb
 ·intro b o hb
  rw[hgetH] at hb;rw[hget]
  rcases I.dom b o hb with g|⟨d,g1,g2⟩
  ·exact .inl g
  ·exact .inr ⟨d,List.mem_append_right _ g1,g2⟩
 ·intro d hd b nk ao hb
  rw[hget,n9]
  rcases List.mem_append.1 hd with g|g
  ·obtain⟨a1,a2,a3⟩:=n11 d g b nk ao hb
   have hno:ι b=none:=by
    cases hq:ι b with
    | none=>rfl
    | some bi=>have:=I.hr.fresh b bi hq;rw[I.nx] at this;omega
   have hgn:h.get b=none:=by
    cases hq:h.get b with
    | none=>rfl
    | some o =>
     obtain⟨bi,_,e1,_⟩:=I.hr.obj b o (I.hin b o hq);rw[hno] at e1;cases e1
   refine⟨hgn,a2,a3,?_,?_,fun _=>hno⟩
   ·have:=I.hr.gn;rw[I.nx,I.gl] at this;omega
   ·have:=I.adv.nx;rw[I.nx] at this;omega
  ·obtain⟨a1,a2,a3,a4,a5,a6⟩:=I.res d g b nk ao hb
   exact⟨a1,Nat.lt_of_lt_of_le a2 n10,a3,a4,a5,a6⟩
 ·intro d hd d' hd' b nk ao nk' ao' hb hb'
  rcases List.mem_append.1 hd with g|g <;> rcases List.mem_append.1 hd' with g'|g'
  ·exact n12 d g d' g' b nk ao nk' ao' hb hb'
  ·exfalso
   have h1:=(n11 d g b nk ao hb).1;have h2:=(I.res d' g' b nk' ao' hb').2.1;omega
  ·exfalso
   have h1:=(n11 d' g' b nk' ao' hb').1;have h2:=(I.res d g b nk ao hb).2.1;omega
  ·exact I.bu d g d' g' b nk ao nk' ao' hb hb'
theorem ZRt {F:Fence}{Q:Exit->Act->World->Prop}{K:Act->World->Prop}{x:Ix}(I:DI VT fr ops ι0 h0 w0 T dn e ds h H listed ι a w)(hst:∀d∈dn,ZPD P bg ops h e d)(hbig:h.nx<=bg)(he:ZB7 (ixs ops.toList)=true)(hso:ZDv ops (ixs ops.toList)=true)
  (hF:FenR ι fr.rd F) (hx:x∈ixs ops.toList) (hT:T.testBit x.i=true) (hl:¬Ls listed x.i) (hr:∀ed∈x.o.after,Region.binds .any ed=true->Ls listed ed.on)
  (hK:∀ι' a' w' H',Dx.Sub ι ι'->DI VT fr ops ι0 h0 w0 T dn e ds h H' (listed.setIfInBounds x.i true) ι' a' w'->K a' w'):wpOpIn F 0 P ops Q x.i K a w:=by
 obtain⟨d,hd,rfl⟩:=I.cov x hx hT hl;have hxo:=(ZDH hx).1;have hlt:d.x.i<listed.size:=by rw[I.lsz];exact (Array.getElem?_eq_some_iff.1 hxo).1
 have henv:EnvR ι (viewV e (d.x.o.looksAt ops)) a.tmps:=fun t v hv=>I.envQ he hso hx hl hr t v (by rw[ZRx];rw[ZN0] at hv;exact hv);obtain⟨hslot,hs2⟩:=hst d hd;have hrh:HR ι (hz bg h) w.heap:=I.hr.weaken I.hin (by rw[I.nx];exact hbig) I.gl.symm
 have tail:∀(ι':Iota) (v':Value) (w':World) (H':Heap),Dx.Sub ι ι'->VR ι' d.v v'->HR ι' H' w'.heap->Adv ι0 h0 w0 ι' H' w'->H'.nx=h.nx->H'.gl=h.gl->(∀b o,H.get b=some o->H'.get b=some o) →
   (∀b o,H'.get b=some o->H.get b=some o\/∃nk,d.b=some (b,nk,o))->(∀b nk ao,d.b=some (b,nk,ao)->H'.get b=some ao)->(∀b,ι b=none->(∀nk ao,d.b≠some (b,nk,ao))->b<h.nx->ι' b=none)->K (a.put d.x.o.dst v') w':=by
  intro ι' v' w' H' hsub hv hrr hadv hnx hgl hin hdom hself hnone;refine hK ι' _ w' H' hsub ?_;refine⟨by simp[I.lsz],?_,?_,?_,I.dnin,?_,I.uniq,?_,I.ei,?_,?_,hrr,hadv,hnx,hgl,fun b o hb=>hin b o (I.hin b o hb),?_,?_,?_,I.bu⟩
  ·intro k hk o ho ed hed hb
   rcases (ZAr hlt).1 hk with rfl|g
   ·rw[hxo] at ho;cases ho
    exact (ZAr hlt).2 (.inr (hr ed hed hb))
   ·exact (ZAr hlt).2 (.inr (I.closed k g o ho ed hed hb))
  ·intro k hk
   rcases (ZAr hlt).1 hk with rfl|g
   ·exact hT
   ·exact I.sub k g
  ·intro y hy hyT hye
   exact (ZAr hlt).2 (.inr (I.eff y hy hyT hye))
  ·intro y hy hyT hyl
   exact I.cov y hy hyT fun hq=>hyl ((ZAr hlt).2 (.inr hq))
  ·intro t v hv
   by_cases hdst:d.x.o.dst=some t
   ·have:=hslot t hdst
    rw[this] at hv;cases hv;have htl:t<a.tmps.size:=by rw[I.sz];exact (I.dnin d hd).2.2 t hdst
    exact .inr ⟨v',by simp[Act.put,hdst,htl],hv⟩
   ·have hsame:(a.put d.x.o.dst v').tmps[t]?=a.tmps[t]?:=by
     cases hq:d.x.o.dst with
     | none=>rfl
     | some s =>
      have hne:s≠t:=fun e=>hdst (by rw[hq,e]);simp only[Act.put];rw[Array.getElem?_setIfInBounds_ne hne]
    rcases I.slots t v hv with ⟨y,y1,y2,y3,y4⟩|⟨v1,g1,g2⟩
    ·refine .inl ⟨y,y1,y2,fun hq=>?_,y4⟩
     rcases (ZAr hlt).1 hq with g|g
     ·have:y=d.x:=ZDp y1 hx g
      rw[this] at y4;exact hdst y4
     ·exact y3 g
    ·exact .inr ⟨v1,by rw[hsame];exact g1,g2.mono hsub⟩
  ·have:(a.put d.x.o.dst v').tmps.size=a.tmps.size:=by cases d.x.o.dst <;> simp[Act.put]
   rw[this];exact I.sz
  ·have:(a.put d.x.o.dst v').defers=a.defers:=by cases d.x.o.dst <;> rfl
   rw[this];exact I.df.mono hsub
  ·intro d' hd' hl' b nk ao hb
   rcases (ZAr hlt).1 hl' with g|g
   ·have:=I.uniq d' hd' d hd g
    subst this;exact hself b nk ao hb
   ·exact hin b ao (I.lay d' hd' g b nk ao hb)
  ·intro b o hb
   rcases hdom b o hb with g|⟨nk,g⟩
   ·rcases I.dom b o g with g|⟨d',g1,g2,g3⟩
    ·exact .inl g
    ·exact .inr ⟨d',g1,(ZAr hlt).2 (.inr g2),g3⟩
   ·exact .inr ⟨d,hd,(ZAr hlt).2 (.inl rfl),nk,g⟩
  ·intro d' hd' b nk ao hb
   obtain⟨a1,a2,a3,a4,a5,a6⟩:=I.res d' hd' b nk ao hb;refine⟨a1,a2,a3,a4,a5,fun hq=>?_⟩;refine hnone b (a6 fun hq'=>hq ((ZAr hlt).2 (.inr hq'))) (fun nk' ao' hb'=>?_) a2;have:=I.bu d' hd' d hd b nk ao nk' ao' hb hb';subst this;exact hq ((ZAr hlt).2 (.inl rfl))
 have hnd:∀c,d.x.o.op≠.defer c:=by
  intro c hc;have:ZDV d.x=true:=by unfold ZDV;rw[hc];rfl
  exact hl (I.eff d.x hx hT this)
 unfold wpOpIn;simp only[hxo]
 rcases hs2 with ⟨hg,hb,hv⟩|⟨hg,hk,hb,hop⟩|⟨hg,hk,b,nk,ao,hb,hnew,hv⟩
 ·rw[ZCP henv hg]
  simp only[Bool.false_eq_true,if_false];exact⟨fun f _=>hF.fn f,tail ι _ w H (.refl _) (by rw[hv];exact .tup .nil) I.hr I.adv I.nx I.gl (fun b o h=>h) (fun b o h=>.inl h) (fun b nk ao hq=>by rw[hb] at hq;cases hq) (fun b hb _ _=>hb)⟩
 ·rw[ZCP henv hg]
  simp only[if_true];refine⟨fun f _=>hF.fn f,?_⟩;rw[Oper.semAt_eq _ _ _ hnd];obtain⟨ι',v',w',hrun,hv,hr',ha'⟩:=hop ι w a hrh henv;have hrz:HR ι ⟨H.t,bg,H.gl⟩ w.heap:=I.hr.weaken (fun _ _ h=>h) (by rw[I.nx];exact hbig) rfl
  obtain⟨j1,j2⟩:=hrz.join (h:=hz bg h) (H':=⟨H.t,bg,H.gl⟩) I.hin hr' ha' rfl I.gl.symm (fun b o hb=>by
   cases hq:(hz bg h).get b with
   | none=>exact .inr ⟨hb,rfl⟩
   | some o2 =>
    have h3:=I.hin b o2 hq;have h4:H.get b=some o:=hb;rw[h4] at h3;cases h3;exact .inl rfl) rfl I.gl
  have hold:∀b,b<bg->ι' b=ι b:=fun b hb=>j2.old b hb;have hHn:H.nx<=bg:=by rw[I.nx];exact hbig
  have k1:HR ι' H w'.heap:=⟨j1.obj,j1.inj,fun b bi hb=>by
   have:=j1.fresh b bi hb;rw[hold b this] at hb;exact I.hr.fresh b bi hb,j1.glo,I.hr.gn⟩
  have k2:Adv ι0 h0 w0 ι' H w':=by
   refine⟨I.adv.sub.trans j2.sub,Nat.le_trans I.adv.sz j2.sz,fun c hc hnr=>?_,fun c hrg hc=>?_,I.adv.nx,fun c hc=>?_,I.adv.gl,j2.os.trans I.adv.os,j2.out.trans I.adv.out,fun e=>⟨(j2.dr (I.adv.gl.trans e)).1.trans (I.adv.dr e).1,Nat.le_trans (I.adv.dr e).2 (j2.dr (I.adv.gl.trans e)).2⟩⟩
   ·rw[j2.fr c (Nat.lt_of_lt_of_le hc I.adv.sz) (fun hrg=>hnr (I.adv.dm c hrg hc)),I.adv.fr c hc hnr]
   ·exact I.adv.dm c (j2.dm c hrg (Nat.lt_of_lt_of_le hc I.adv.sz)) hc
   ·have:c<bg:=Nat.lt_of_lt_of_le hc (Nat.le_trans I.adv.nx hHn)
    rw[hold c this];exact I.adv.old c hc
  have fin:K (a.put d.x.o.dst v') w':=tail ι' v' w' H ha'.sub hv k1 k2 I.nx I.gl (fun b o h=>h) (fun b o h=>.inl h) (fun b nk ao hq=>by rw[hb] at hq;cases hq)
   (fun b hb _ hlt'=>by rw[hold b (Nat.lt_of_lt_of_le hlt' hbig)];exact hb)
  rcases hrun with hrun|⟨hrun,rfl⟩
  ·rw[hrun,Oper.uponIn_value];exact fin
  ·rw[hrun,Oper.uponIn_skip];exact fin
 ·rw[ZCP henv hg]
  simp only[if_true];refine⟨fun f _=>hF.fn f,?_⟩;rw[Oper.semAt_eq _ _ _ hnd];obtain⟨o',bi,hrun,hblk,hor⟩:=ZE1 (P:=P) (a:=a) hrh henv hnew;obtain⟨a1,a2,a3,a4,a5,a6⟩:=I.res d hd b nk ao hb;have hno:=a6 hl
  have hsub:Dx.Sub ι (Dx.upd ι b bi):=fun c x hc=>by
   have:c≠b:=fun e=>by rw[e,hno] at hc;cases hc
   rw[Dx.upd_other _ _ this];exact hc
  obtain⟨j1,_,j3,j4⟩:=I.hr.addAt (b:=b) (o:=ao) (o':=o') hblk hno (by rw[I.nx];exact a2) a3 (by rw[I.gl];exact a4) (hor.mono hsub)
  have hadv:Adv ι0 h0 w0 (Dx.upd ι b bi) (H.set b ao) { w with heap:=w.heap.push o' }:=by
   refine⟨I.adv.sub.trans hsub,by simp;have:=I.adv.sz;omega,fun c hc hnr=>?_,fun c hrg hc=>?_,I.adv.nx,fun c hc=>?_,I.adv.gl,I.adv.os,I.adv.out,I.adv.dr⟩
   ·rw[j3 c (Nat.lt_of_lt_of_le hc I.adv.sz)];exact I.adv.fr c hc hnr
   ·exact I.adv.dm c (j4 c hrg (Nat.lt_of_lt_of_le hc I.adv.sz)) hc
   ·rw[Dx.upd_other _ _ (by omega)];exact I.adv.old c hc
  have hHb:H.get b=none:=by
   cases hq:H.get b with
   | none=>rfl
   | some o =>
    obtain⟨bi2,_,e1,_⟩:=I.hr.obj b o hq;rw[hno] at e1;cases e1
  have hsame:(H.set b ao).get b=some ao:=by unfold Heap.get Heap.set;exact ZAm _ b (some ao)
  have hvr:VR (Dx.upd ι b bi) d.v (nk.mk w.heap.size):=by
   rw[hv,<-hblk];exact NK.rel (Dx.upd_same _ _ _)
  rw[hrun,Oper.uponIn_value]
  refine tail (Dx.upd ι b bi) _ { w with heap:=w.heap.push o' } (H.set b ao) hsub hvr j1 hadv I.nx I.gl ?_ ?_ ?_ ?_
  ·intro c o hc
   have:c≠b:=fun e=>by rw[e,hHb] at hc;cases hc
   rw[Heap.get_set_other _ this];exact hc
  ·intro c o hc
   by_cases e1:c=b
   ·subst e1
    rw[hsame] at hc;cases hc;exact .inr ⟨nk,hb⟩
   ·rw[Heap.get_set_other _ e1] at hc;exact .inl hc
  ·intro c nk2 ao2 hc
   rw[hb] at hc;cases hc;exact hsame
  ·intro c hc hne _
   have:c≠b:=fun e=>by subst e;exact hne nk ao hb
   rw[Dx.upd_other _ _ this];exact hc
end
theorem ZUK {fr:Fr}{ops:Array Oper}{K:List Done->Mem->Heap->Prop}{T':Nat}:∀(l:List Ix)(dn:List Done)(m:Mem)(e:Env)(h:Heap)(T:Nat),WQ P fr ops l dn m h K->ZKh l T=some T'->qsOk ops l=true->Sat m e →
  ∃new m' e' h',K (new++dn) m' h'/\Sat m' e'/\(∀d∈new,d.x∈l)/\(∀x∈l,∃d∈new,d.x=x)/\(∀d∈new,∀d'∈new,d.x.i=d'.x.i->d=d')/\(∀x∈l,∀t,x.o.dst=some t->t<fr.nt) ∧
   (∀t v,lk t e'=some v->(∃x∈l,x.o.dst=some t)\/lk t e=some v)/\h'.t=h.t/\h'.gl=h.gl/\h.nx<=h'.nx ∧
   (∀d∈new,∀b nk ao,d.b=some (b,nk,ao)->h.nx<=b/\b<h'.nx/\True)/\(∀d∈new,∀d'∈new,∀b nk ao nk' ao',d.b=some (b,nk,ao)->d'.b=some (b,nk',ao')->d=d') ∧
   (∀x∈l,Nat.testBit T x.i=false/\ZDV x=false)/\(∀j,Nat.testBit T' j=true ↔ (Nat.testBit T j=true\/∃x∈l,x.i=j)) ∧
   (∀t,(∀y∈l,y.o.dst≠some t)->m' t=m t)/\∀d∈new,QA P ops m' h' d/\∀t,d.x.o.dst=some t->m' t=some d.v:=by
 intro l
 induction l with
 | nil =>
  intro dn m e h T hw ht _ hs;cases ht;refine⟨[],m,e,h,hw,hs,(fun d hd=>nomatch hd),(fun d hd=>nomatch hd),(fun d hd=>nomatch hd),(fun d hd=>nomatch hd),fun t v hv=>.inr hv,rfl,rfl,Nat.le_refl _,(fun d hd=>nomatch hd),(fun d hd=>nomatch hd),(fun d hd=>nomatch hd),fun j=>?_,fun _ _=>rfl,(fun d hd=>nomatch hd)⟩;simp
 | cons x l ih =>
  rintro dn m e h T ⟨v,b,hd,hq,hb,hw⟩ ht hok hs;simp only[qsOk,Bool.and_eq_true] at hok;obtain⟨⟨o1,o2⟩,o3⟩:=hok;unfold ZKh at ht
  split at ht
  ·cases ht
  rename_i hTx;simp only[Bool.or_eq_true,not_or,Bool.not_eq_true] at hTx;have hs1:∃e1,Sat (updO m x.o v) e1/\∀t,x.o.dst≠some t->lk t e1=lk t e:=by
   cases hq:x.o.dst with
   | none=>exact⟨e,by simp only[updO,hq];exact hs,fun _ _=>rfl⟩
   | some d =>
    refine⟨putE VT fr.fn d v e,by simp only[updO,hq];exact hs.put fr.fn d v,fun t ht=>?_⟩;rw[ZBy (hs.ei fr.fn),if_neg];intro hdt;subst hdt;exact ht rfl
  obtain⟨e1,hs1,hlk1⟩:=hs1;obtain⟨new,m',e',h',hK,hs',n2,n3,n4,n6,n7,n8,n9,n10,n11,n12,n13,n14,n15,n16⟩:=ih (⟨x,v,b⟩::dn) (updO m x.o v) e1 (bump b h) _ hw ht o3 hs1;have hbt:(bump b h).t=h.t:=by cases b <;> rfl
  have hbg:(bump b h).gl=h.gl:=by cases b <;> rfl
  have hbn:h.nx<=(bump b h).nx:=by cases b <;> simp[bump]
  have htb:∀j,Nat.testBit (Nat.lor T (Nat.shiftLeft 1 x.i)) j=true ↔ (Nat.testBit T j=true\/x.i=j):=by
   intro j;rw[Dx.testBit_set];simp
  have hnx:∀d∈new,d.x.i≠x.i:=fun d hd he=>by
   have:=(n13 _ (n2 d hd)).1;rw[he] at this;rw[(htb x.i).2 (.inr rfl)] at this;cases this
  have hmo:∀t,x.o.dst≠some t->updO m x.o v t=m t:=by
   intro t ht;unfold updO
   cases hq:x.o.dst with
   | none=>rfl
   | some d=>exact upd_other _ _ fun he=>ht (by rw[hq,he])
  refine⟨new++[⟨x,v,b⟩],m',e',h',by rw[List.append_assoc];exact hK,hs',?_,?_,?_,?_,?_,n8.trans hbt,n9.trans hbg,Nat.le_trans hbn n10,?_,?_,?_,?_,?_,?_⟩
  ·intro d hd
   rcases List.mem_append.1 hd with g|g
   ·exact List.mem_cons_of_mem _ (n2 d g)
   ·rw[List.mem_singleton.1 g];exact List.mem_cons_self
  ·intro y hy
   rcases List.mem_cons.1 hy with rfl|g
   ·exact⟨_,List.mem_append_right _ (List.mem_singleton.2 rfl),rfl⟩
   ·obtain⟨d,a1,a2⟩:=n3 y g;exact⟨d,List.mem_append_left _ a1,a2⟩
  ·intro d hd d' hd' heq
   rcases List.mem_append.1 hd with g|g <;> rcases List.mem_append.1 hd' with g'|g'
   ·exact n4 d g d' g' heq
   ·rw[List.mem_singleton.1 g'] at heq;exact absurd heq (hnx d g)
   ·rw[List.mem_singleton.1 g] at heq;exact absurd heq.symm (hnx d' g')
   ·rw[List.mem_singleton.1 g,List.mem_singleton.1 g']
  ·intro y hy t hyt
   rcases List.mem_cons.1 hy with rfl|g
   ·unfold ZEp at hd;rw[hyt] at hd;exact Nat.le_of_ble_eq_true hd
   ·exact n6 y g t hyt
  ·intro t u hu
   rcases n7 t u hu with ⟨y,g1,g2⟩|g
   ·exact .inl ⟨y,List.mem_cons_of_mem _ g1,g2⟩
   ·by_cases hxt:x.o.dst=some t
    ·exact .inl ⟨x,List.mem_cons_self,hxt⟩
    ·rw[hlk1 t hxt] at g;exact .inr g
  ·intro d hd b' nk ao hbb
   rcases List.mem_append.1 hd with g|g
   ·obtain⟨a1,a2,a3⟩:=n11 d g b' nk ao hbb
    exact⟨Nat.le_trans hbn a1,a2,a3⟩
   ·rw[List.mem_singleton.1 g] at hbb
    simp only at hbb;have:=hb b' nk ao hbb;subst this;refine⟨Nat.le_refl _,?_,trivial⟩;rw[hbb] at n10;exact n10
  ·intro d hd d' hd' b' nk ao nk' ao' hbb hbb'
   rcases List.mem_append.1 hd with g|g <;> rcases List.mem_append.1 hd' with g'|g'
   ·exact n12 d g d' g' b' nk ao nk' ao' hbb hbb'
   ·exfalso
    rw[List.mem_singleton.1 g'] at hbb';simp only at hbb';have h1:=hb _ _ _ hbb';have h2:=(n11 d g b' nk ao hbb).1;rw[hbb'] at h2;simp only[bump] at h2;omega
   ·exfalso
    rw[List.mem_singleton.1 g] at hbb;simp only at hbb;have h1:=hb _ _ _ hbb;have h2:=(n11 d' g' b' nk' ao' hbb').1;rw[hbb] at h2;simp only[bump] at h2;omega
   ·rw[List.mem_singleton.1 g,List.mem_singleton.1 g']
  ·intro y hy
   rcases List.mem_cons.1 hy with rfl|g
   ·exact hTx
   ·obtain⟨a1,a2⟩:=n13 y g
    refine⟨?_,a2⟩
    cases hq:T.testBit y.i with
    | false=>rfl
    | true=>rw[(htb _).2 (.inl hq)] at a1;cases a1
  ·intro j
   rw[n14 j,htb j]
   constructor
   ·rintro ((g|g)|⟨y,g1,g2⟩)
    ·exact .inl g
    ·exact .inr ⟨x,List.mem_cons_self,g⟩
    ·exact .inr ⟨y,List.mem_cons_of_mem _ g1,g2⟩
   ·rintro (g|⟨y,g1,g2⟩)
    ·exact .inl (.inl g)
    ·rcases List.mem_cons.1 g1 with rfl|g1
     ·exact .inl (.inr g2)
     ·exact .inr ⟨y,g1,g2⟩
  ·intro t ht
   rw[n15 t fun y hy=>ht y (List.mem_cons_of_mem _ hy),hmo t (ht x List.mem_cons_self)]
  ·intro d hd
   rcases List.mem_append.1 hd with g|g
   ·exact n16 d g
   ·rw[List.mem_singleton.1 g]
    have hno:∀t∈ZOI ops x.o,∀y∈l,y.o.dst≠some t:=fun t ht y hy hyt=>by
     have h2:=List.all_eq_true.1 o2 y hy;rw[hyt] at h2;simp only[Bool.not_eq_true'] at h2;rw[List.contains_iff_mem.2 ht] at h2;cases h2
    refine⟨hq.keep (n8.trans hbt) (n9.trans hbg) fun t ht=>?_,fun t ht=>?_⟩
    ·rw[n15 t (hno t (List.mem_append_left _ ht)),hmo t]
     intro hxt;rw[hxt] at o1;simp only[Bool.not_eq_true'] at o1;have ht':t∈x.o.looksAt ops:=ht;rw[List.contains_iff_mem.2 ht'] at o1;cases o1
    ·have ht':x.o.dst=some t:=ht
     rw[n15 t (hno t (List.mem_append_right _ (by rw[ht'];exact List.mem_singleton.2 rfl)))];unfold updO;rw[ht'];exact upd_same _ _ _
theorem ZM9 {p:Nat->Bool}{t:Nat}{v:Value}:∀{l:List (Nat×Value)},p t=true->lkL t l=some v->lkL t (l.filter fun q=>p q.1)=some v:=by
 intro l
 induction l with
 | nil=>intro _ h;exact h
 | cons q l ih =>
  intro hp h;rw[ZBE] at h
  by_cases e:q.1=t
  ·rw[if_pos e] at h
   rw[List.filter_cons_of_pos (by rw[e];exact hp),ZBE,if_pos e];exact h
  ·rw[if_neg e] at h
   by_cases hq:p q.1=true
   ·rw[List.filter_cons_of_pos (by simpa using hq),ZBE,if_neg e];exact ih hp h
   ·rw[List.filter_cons_of_neg (by simpa using hq)];exact ih hp h
theorem Sat.scrub {m:Mem}{e:Env}(h:Sat m e)(ops:Array Oper):Sat (ZJJ ops m) (Dx.scrub ops.toList e):=by
 refine⟨rfl,fun t v hv=>?_⟩;unfold ZJJ at hv
 cases hb:(ops.toList.all fun o=>match o.dst with|some d=>!Nat.beq d t|none=>true)
 ·rw[hb] at hv;cases hv
 ·rw[hb] at hv
  have h1:=h.get t v hv;rw[ZF6,h.te,ZCW] at h1;simp only at h1;rw[ZF6]
  exact ZM9 (p:=fun t=>ops.toList.all fun o=>match o.dst with|some d=>!Nat.beq d t|none=>true) hb h1
theorem ZPJ {fr:Fr}{o:Oper}{v:Value}{e1 e2 e:Env}(hi:EI VT fr.fn e1)(h:put VT fr o v e1=some e2):∃e3,ZLN VT fr.fn o e2 e=some e3/\∀m,Sat m e->Sat (updO m o v) e3:=by
 unfold put at h;unfold ZLN
 split at h
 ·rename_i hd;cases h
  exact⟨e,rfl,fun m hs=>by simp only[updO,hd];exact hs⟩
 ·rename_i d hd
  cases hb:Nat.blt d fr.nt
  ·rw[hb] at h;cases h
  ·rw[hb] at h;cases h
   rw[ZBy hi,if_pos rfl];exact⟨_,rfl,fun m hs=>by simp only[updO,hd];exact hs.put fr.fn d v⟩
theorem ZSO {fr:Fr}{ops:Array Oper} {ι0:Iota}{h0:Heap}{w0:World}{Q:CQ}{F:Fence}(he:ZB7 (ixs ops.toList)=true)(hso:ZDv ops (ixs ops.toList)=true) :
  ∀(phs:List ZKD) (T:Nat) (dn:List Done) (m:Mem) (e:Env) (ds:List ADef) (h:Heap),(∀ph∈phs,((∀x∈ph.qs,x∈ixs ops.toList)/\∀x,ph.ef=some x->x∈ixs ops.toList)/\qsOk ops ph.qs=true)->ZIQ (ixs ops.toList) phs T=true →
   WD P fr ops Q phs dn m ds h->Sat m e->∀(U:List Nat) (listed:Array Bool) (ι:Iota) (a:Act) (w:World) (H:Heap),U.Nodup->(∀k,k<ops.size->¬Ls listed k->k∈U) →
   DI VT fr ops ι0 h0 w0 T dn e ds h H listed ι a w->FenR ι fr.rd F->wpAnyIn F 0 P .any ops (PQ fr ι0 h0 w0 Q) U.length listed a w:=by
 intro phs
 induction phs with
 | nil=>intro T dn m e ds h _ _ hs;exact hs.elim
 | cons ph phs ihp =>
  intro T dn0 mm0 ee0 ds hh0 hmem hord hw hs0 U0 listed0 ι00 a00 w00 H00 hU0 hUc0 I0 hF0;simp only[ZIQ] at hord
  split at hord
  case h_2=>cases hord
  rename_i T1 htq;obtain⟨hm,hqs⟩:=hmem ph List.mem_cons_self;simp only[WD] at hw;obtain⟨new,m,e,h,⟨hst0,hK⟩,hs,n2,n3,n4,n6,n7,n8,n9,n10,n11,n12,n13,n14,n15,n16⟩:=ZUK ph.qs dn0 mm0 ee0 hh0 T hw htq hqs hs0;have I1:=ZOu I0 n2 n3 n4 (hs.ei fr.fn) n6 n7 n8 n9 n10 n11 n12 n13 n14 hm.1
  have hst:∀d∈new++dn0,ZPD P h.nx ops h e d:=fun d hd=>by
   rcases List.mem_append.1 hd with g|g
   ·exact (n16 d g).1.still (n16 d g).2 hs _
   ·exact (hst0 d g).1.still (hst0 d g).2 hs _
  have hbig:h.nx<=h.nx:=Nat.le_refl _;have fin:∀(listed:Array Bool) (ι:Iota) (a:Act) (w:World) (H:Heap),DI VT fr ops ι0 h0 w0 T1 (new++dn0) e ds h H listed ι a w->(∀k,k<ops.size->Ls listed k)->PQ fr ι0 h0 w0 Q .normal a w:=by
   intro listed ι a w H I hall
   cases hef:ph.ef with
   | some x =>
    exfalso
    rw[hef] at hord;simp only[Bool.and_eq_true,Bool.not_eq_true'] at hord;have hx:=hm.2 x hef;have:=I.sub x.i (hall x.i (Array.getElem?_eq_some_iff.1 (ZDH hx).1).1);rw[hord.1.1.1] at this;cases this
   | none =>
    rw[hef] at hK;simp only at hK;have hnp:∀y∈ixs ops.toList,Ls listed y.i:=fun y hy=>hall y.i (Array.getElem?_eq_some_iff.1 (ZDH hy).1).1;obtain⟨hnx,hgl⟩:=ZEU (new++dn0) h;have hsub:∀b o,(ZA8 (new++dn0) h).get b=some o->H.get b=some o:=by
     intro b o hb
     rcases ZDN hb with ⟨d,g1,nk,g2⟩|⟨g,_⟩
     ·exact I.lay d g1 (hnp _ (I.dnin d g1).1) b nk o g2
     ·exact I.hin b o g
    refine⟨.normal,e,ds,_,m,hs,hK,ι,⟨I.adv.sub,I.adv.sz,I.adv.fr,?_,?_,I.adv.old,?_,I.adv.os,I.adv.out,I.adv.dr⟩,I.hr.weaken hsub (by rw[hnx,I.nx];exact Nat.le_refl _) (by rw[hgl,I.gl]),⟨fun t v hv=>?_,I.ei,I.sz,I.df⟩,.normal⟩
    ·rintro c ⟨b,o,bi,g1,g2,g3⟩ hc
     exact I.adv.dm c ⟨b,o,bi,hsub _ _ g1,g2,g3⟩ hc
    ·rw[hnx,<-I.nx];exact I.adv.nx
    ·rw[hgl,<-I.gl];exact I.adv.gl
    ·rcases I.slots t v hv with ⟨y,y1,_,y3,_⟩|g
     ·exact absurd (hnp y y1) y3
     ·exact g
  have inner:∀(n:Nat) (U:List Nat) (listed:Array Bool) (ι:Iota) (a:Act) (w:World) (H:Heap),U.length=n->U.Nodup->(∀k,k<ops.size->¬Ls listed k->k∈U)->DI VT fr ops ι0 h0 w0 T1 (new++dn0) e ds h H listed ι a w->FenR ι fr.rd F →
    wpAnyIn F 0 P .any ops (PQ fr ι0 h0 w0 Q) n listed a w:=by
   intro n
   induction n with
   | zero =>
    intro U listed ι a w H hUl hU hUc I hF;have hnil:U=[]:=List.length_eq_zero_iff.1 hUl
    have hall:∀k,k<ops.size->Ls listed k:=fun k hk=>by
     cases hq:listed.getD k false with
     | true=>exact hq
     | false =>
      have:=hUc k hk (by unfold Ls;rw[hq];simp);rw[hnil] at this;cases this
    refine⟨?_,fin listed ι a w H I hall⟩
    cases hq:Region.ready .any ops listed with
    | nil=>rfl
    | cons i l =>
     exfalso
     have hi:i∈Region.ready .any ops listed:=by rw[hq];exact List.mem_cons_self
     obtain⟨g1,o,g2,_⟩:=mem_ready.1 hi;have hlt:=(Array.getElem?_eq_some_iff.1 g2).1;have h1:=hall i hlt;have:i<listed.size:=by rw[I.lsz];exact hlt
     unfold Ls at h1;simp[this] at g1 h1;rw[g1] at h1;cases h1
   | succ n ihn =>
    intro U listed ι a w H hUl hU hUc I hF;refine⟨fun hready=>fin listed ι a w H I (I.done he hready),fun i hi=>?_⟩;obtain⟨g1,o,g2,g3⟩:=mem_ready.1 hi;have hlt:=(Array.getElem?_eq_some_iff.1 g2).1;have hltl:i<listed.size:=by rw[I.lsz];exact hlt
    have hnl:¬Ls listed i:=by
     unfold Ls;simp[hltl] at g1 ⊢;exact g1
    have hiU:=hUc i hlt hnl;have hU':(U.erase i).Nodup:=hU.erase i;have hUl':(U.erase i).length=n:=by rw[List.length_erase_of_mem hiU,hUl];rfl
    have hUc':∀k,k<ops.size->¬Ls (listed.setIfInBounds i true) k->k∈U.erase i:=by
     intro k hk hkl;rw[hU.mem_erase_iff];exact⟨fun e=>hkl ((ZAr hltl).2 (.inl e)),hUc k hk fun hq=>hkl ((ZAr hltl).2 (.inr hq))⟩
    obtain⟨x,hx,rfl,rfl⟩:=ZM7 g2
    cases hT:T1.testBit x.i with
    | true =>
     refine ZRt (P:=P) I hst hbig he hso hF hx hT hnl g3 ?_;intro ι' a' w' H' hsub I';exact ihn _ _ ι' a' w' H' hUl' hU' hUc' I' (hF.mono hsub)
    | false =>
     cases hef:ph.ef with
     | none =>
      exfalso
      rw[hef] at hord;have:=List.all_eq_true.1 hord x hx;rw[hT] at this;cases this
     | some y =>
      rw[hef] at hord;simp only[Bool.and_eq_true,Bool.not_eq_true'] at hord;obtain⟨⟨⟨o1,o2⟩,o3⟩,o4⟩:=hord;have hy:=hm.2 y hef;have hxy:y=x:=by
       have h1:=List.all_eq_true.1 o3 x hx;rw[hT] at h1;simp only[Bool.false_or,Bool.or_eq_true] at h1
       rcases h1 with h1|h1
       ·exact (ZDp hx hy (Nat.eq_of_beq_eq_true h1)).symm
       ·exfalso
        have:=I.sub _ (ZIN he I.closed (x.i+1) x (Nat.lt_succ_self _) hx g3 y.i h1);rw[o1] at this;cases this
      subst hxy;rw[hef] at hK;simp only at hK;obtain⟨hdst,hW⟩:=hK;obtain⟨hnx2,hgl2⟩:=ZEU ((new++dn0).filter (ZAd y)) h;have hr2:HR ι (ZA8 ((new++dn0).filter (ZAd y)) h) w.heap:=I.hr.weaken (I.seen he hx g3) (by rw[hnx2,I.nx];exact Nat.le_refl _) (by rw[hgl2,I.gl]);have hfr:=I.view he hso hx hnl g3;refine hW.w y.i g2 (view VT fr.fn e (y.o.looksAt ops)) (hs.view fr.fn _) ι w a F hr2 hfr hF _ _ ⟨fun v ds1 h1 hWD ι' v' a' w' hat hv ha hr' hdf=>?_,fun v ds1 h1 hQ ι' v' w' hv ha hr' hdf=>?_⟩
      ·obtain⟨e1,hp1,_,f1⟩:=ZIg (hfr.mono ha.sub) (hs.view fr.fn _) hdst hat hv hdf
       obtain⟨e2,ht1,hs2⟩:=ZPJ (e:=e) hfr.ei hp1;obtain⟨H',I'⟩:=I.effect he hx hT g3 hat ha hr' f1 ht1;have:=ihp _ _ _ e2 ds1 h1 (fun ph' hp'=>hmem ph' (List.mem_cons_of_mem _ hp')) o4 hWD (hs2 m hs) (U.erase y.i) _ ι' a' w' H' hU' hUc' I' (hF.mono ha.sub);rw[hUl'] at this;exact this
      ·obtain⟨s1,s2⟩:=ZII (ops:=ops) I.ei
       refine⟨.pan v,scrub ops.toList e,ds1,h1,ZJJ ops m,hs.scrub ops,hQ,ι',?_,hr',⟨fun t v hv=>?_,s1,hfr.sz,hdf⟩,.pan hv⟩
       ·have hseen:=I.seen he hx g3
        refine⟨I.adv.sub.trans ha.sub,Nat.le_trans I.adv.sz ha.sz,fun c hc hnr=>?_,fun c hrg hc=>?_,?_,fun c hc=>?_,?_,ha.os.trans I.adv.os,ha.out.trans I.adv.out,fun e=>⟨(ha.dr (hgl2.trans (I.gl.symm.trans (I.adv.gl.trans e)))).1.trans (I.adv.dr e).1,Nat.le_trans (I.adv.dr e).2 (ha.dr (hgl2.trans (I.gl.symm.trans (I.adv.gl.trans e)))).2⟩⟩
        ·rw[ha.fr c (Nat.lt_of_lt_of_le hc I.adv.sz) ?_,I.adv.fr c hc hnr]
         rintro⟨b,o,bi,q1,q2,q3⟩;exact hnr (I.adv.dm c ⟨b,o,bi,hseen _ _ q1,q2,q3⟩ hc)
        ·obtain⟨b,o,bi,q1,q2,q3⟩:=ha.dm c hrg (Nat.lt_of_lt_of_le hc I.adv.sz)
         exact I.adv.dm c ⟨b,o,bi,hseen _ _ q1,q2,q3⟩ hc
        ·have:=ha.nx;rw[hnx2,<-I.nx] at this;exact Nat.le_trans I.adv.nx this
        ·rw[ha.old c (by rw[hnx2,<-I.nx];exact Nat.lt_of_lt_of_le hc I.adv.nx)];exact I.adv.old c hc
        ·rw[ha.gl,hgl2,<-I.gl];exact I.adv.gl
       ·obtain⟨q1,q2⟩:=s2 t v hv
        rcases I.slots t v q1 with ⟨y',y1,_,_,y4⟩|⟨v2,r1,r2⟩
        ·exfalso
         have:=(ZDH y1).1;exact q2 y'.o (by simpa using Array.mem_of_getElem? this) y4
        ·exact⟨v2,r1,r2.mono ha.sub⟩
  exact inner U0.length U0 listed0 ι00 a00 w00 _ rfl hU0 hUc0 I1 hF0
theorem ZSB (hm:P.follows .mixedOrders=true){fr:Fr}{i:Nat}{ops:Array Oper}{m:Mem}{ds:List ADef}{h:Heap}{Q:CQ}(hd:ZJF ops=true)
  (hw:WD P fr ops Q (ZGg (ixs ops.toList)) [] m ds h):Wc P fr (.region i ops true) m ds h Q:=by
 refine⟨?_⟩;intro e hs ι w a F hr hf hF;unfold ZJF at hd;simp only[Bool.and_eq_true] at hd;obtain⟨⟨⟨⟨_,he⟩,hso⟩,hord⟩,hqs⟩:=hd;refine wpIn_region_any hm ?_
 have I:DI VT fr ops ι h w 0 [] e ds h h (Array.replicate ops.size false) ι a { w with drawn:=w.drawn+1 }:=by
  have hno:∀k,¬Ls (Array.replicate ops.size false) k:=by
   intro k hk;unfold Ls at hk
   rcases Nat.lt_or_ge k ops.size with h1|h1 <;> simp[h1] at hk
  refine⟨by simp,fun k hk=>absurd hk (hno k),fun k hk=>absurd hk (hno k),fun x hx hxT=>by simp at hxT,(fun d hd=>nomatch hd),fun x hx hxT=>by simp at hxT,(fun d hd=>nomatch hd),fun t v hv=>.inr (hf.env t v hv),hf.ei,hf.sz,hf.df,hr,(Adv.refl ι h w).alike rfl rfl rfl rfl (Nat.le_succ _),rfl,rfl,
   fun b o hb=>hb,(fun d hd=>nomatch hd),fun b o hb=>.inl hb,(fun d hd=>nomatch hd),(fun d hd=>nomatch hd)⟩
 have:=ZSO (P:=P) (Q:=Q) (F:=F) he hso (ZGg (ixs ops.toList)) 0 [] m e ds h (fun ph hph=>⟨ZJH _ 0 (fun x hx=>(List.mem_filter.1 hx).1) ph hph,List.all_eq_true.1 hqs ph hph⟩) hord hw hs (List.range ops.size) _ ι a _ h List.nodup_range (fun k hk _=>List.mem_range.2 hk) I hF;rw[List.length_range] at this;exact this
end Go.Dw
namespace Go.Dw
open Go.Dx
variable {P:Program}{m:Mem}{h:Heap}{d:Option Tmp}{ty:TypeId}{pos:String}{af:Array Edge}{gu:Option (Nat×Bool)}
abbrev str (l:List UInt8):Value:=.string ⟨⟨l⟩⟩
abbrev byt (c:UInt8):Value:=.int .u8 (c.toNat:Int)
theorem bext (l:List UInt8)(i j:Nat):(⟨⟨l⟩⟩:ByteArray).extract i j=⟨⟨(l.drop i).take (j-i)⟩⟩:=by
 apply ByteArray.ext;simp
theorem ZAc {t:TypeId}{x i:Operand}{l:List UInt8}{ki:IntKind}{z:Int}{k:Nat}(ht:P.underlying t=some .string)(hx:opk h m x=some (str l))(hi:opk h m i=some (.int ki z))(hk:z=(k:Int))(hlt:k<l.length) :
  Aop P ⟨d,.index t x i,ty,pos,af,gu⟩ m h (byt l[k]) h :=
 ZAe fun e hs=>by
  subst hk
  show ZGn P h e t x i=_
  unfold ZGn;rw[ZAM hs hx,ZAM hs hi]
  show (match ZGf P t (.string ⟨⟨l⟩⟩) (.int ki (Int.ofNat k)) with|some v=>AR.ok v h|none=>.no)=_
  simp only[ZGf,ZEA,ht,ZAv,List.getElem?_eq_getElem hlt]
  rfl
theorem ZL9 {op:Op}{x:Operand}{a v:Value}(hx:opk h m x=some a)(fa:flat a=true)(fv:flat v=true)
  (hrun:∀(ev:Operand->Value) w,ev x=a->(execOp ev ⟨d,op,ty,pos,af,gu⟩).run P w=.ok (.value v) w):Aop P ⟨d,op,ty,pos,af,gu⟩ m h v h:=by
 intro e hs ι w ac hr he;have hvx:=(ZAH hr he (ZAM hs hx)).flat_eq fa;exact OpS.here hr (hrun _ _ hvx) (VR.of_flat ι fv)
theorem ZGZ {op:Op}{x y:Operand}{a b v:Value}(hx:opk h m x=some a)(hy:opk h m y=some b)(fa:flat a=true)(fb:flat b=true)(fv:flat v=true)
  (hrun:∀(ev:Operand->Value) w,ev x=a->ev y=b->(execOp ev ⟨d,op,ty,pos,af,gu⟩).run P w=.ok (.value v) w):Aop P ⟨d,op,ty,pos,af,gu⟩ m h v h:=by
 intro e hs ι w ac hr he;have hvx:=(ZAH hr he (ZAM hs hx)).flat_eq fa;have hvy:=(ZAH hr he (ZAM hs hy)).flat_eq fb;exact OpS.here hr (hrun _ _ hvx hvy) (VR.of_flat ι fv)
theorem ZBB {t tz:TypeId}{x y:Operand}{a b:List UInt8}(hx:opk h m x=some (str a))(hy:opk h m y=some (str b)):Aop P ⟨d,.binOp .eql t x y tz,ty,pos,af,gu⟩ m h (.bool (decide (a=b))) h :=
 ZCm hx hy rfl rfl rfl fun w=>by
  simp[eqGuard,binOp,go_sem,Op.stringOp];rw[Bool.eq_iff_iff];simp
theorem ZA6 {t tz:TypeId}{x y:Operand}{a b:List UInt8}(hx:opk h m x=some (str a))(hy:opk h m y=some (str b)):Aop P ⟨d,.binOp .neq t x y tz,ty,pos,af,gu⟩ m h (.bool (decide (¬a=b))) h :=
 ZCm hx hy rfl rfl rfl fun w=>by
  simp[eqGuard,binOp,go_sem,Op.stringOp];rw[Bool.eq_iff_iff];simp
theorem ZFs {t:TypeId}{x j:Operand}{l:List UInt8}{kj:IntKind}{z:Int}{k:Nat}(ht:P.underlying t=some .string)(hx:opk h m x=some (str l))(hj:opk h m j=some (.int kj z))(hk:z=(k:Int))(hle:k<=l.length) :
  Aop P ⟨d,.slice t x none (some j) none,ty,pos,af,gu⟩ m h (str (l.take k)) h:=by
 refine ZGZ hx hj rfl rfl rfl fun ev w h1 h2=>?_;subst hk;simp only[execOp,h1,h2,Option.map_some,Option.map_none];have hq:(Instr.slice t (.string ⟨⟨l⟩⟩) none (some (.int kj (k:Int))) none).run P w=.ok (.string ⟨⟨l.take k⟩⟩) w:=by
  rw[run_slice_string_h w t ⟨⟨l⟩⟩ ht kj k (by omega) (Int.ofNat_le.2 hle),bext];simp
 simp only[Sem.run_bind,run_sliceAt_string _ _ _ _ _ _ ht,str,hq,Result.andThen_ok,Sem.run_pure]
theorem ZFg {t:TypeId}{x j:Operand}{l:List UInt8}{kj:IntKind}{z:Int}{k:Nat}(ht:P.underlying t=some .string)(hx:opk h m x=some (str l))(hj:opk h m j=some (.int kj z))(hk:z=(k:Int))(hle:k<=l.length) :
  Aop P ⟨d,.slice t x (some j) none none,ty,pos,af,gu⟩ m h (str (l.drop k)) h:=by
 refine ZGZ hx hj rfl rfl rfl fun ev w h1 h2=>?_;subst hk;simp only[execOp,h1,h2,Option.map_some,Option.map_none];have hq:(Instr.slice t (.string ⟨⟨l⟩⟩) (some (.int kj (k:Int))) none none).run P w=.ok (.string ⟨⟨l.drop k⟩⟩) w:=by
  rw[run_slice_string_l w t ⟨⟨l⟩⟩ ht kj k (by omega) (Int.ofNat_le.2 hle),bext];have:(⟨⟨l⟩⟩:ByteArray).size=l.length:=rfl;rw[this,Int.toNat_natCast,List.take_of_length_le (by simp)]
 simp only[Sem.run_bind,run_sliceAt_string _ _ _ _ _ _ ht,str,hq,Result.andThen_ok,Sem.run_pure]
theorem ZPe {a b:TypeId}{x:Operand}{c:UInt8}(ha:P.underlying a=some (.int .u8))(hb:P.underlying b=some (.int .i64))(hx:opk h m x=some (byt c)):Aop P ⟨d,.convert a b x,ty,pos,af,gu⟩ m h (.int .i64 (c.toNat:Int)) h:=by
 refine ZL9 hx rfl rfl fun ev w h1=>?_;simp only[execOp,h1];have hq:(convert a b (.int .u8 (c.toNat:Int))).run P w=.ok (.int .i64 (c.toNat:Int)) w:=by
  have hw:IntKind.i64.wrap (c.toNat:Int)=(c.toNat:Int):=IntWalk.i64_in _ (by have:=c.toNat_lt;omega);simp[convert,run_underlying ha,run_underlying hb,Conv.intToInt,hw]
 simp only[Sem.run_bind,hq,Result.andThen_ok,Sem.run_pure]
variable {P:Program}
class Und (P:Program) (t:TypeId) (d:outParam TypeDesc):Prop where
 h:P.underlying t=some d
class OneC (P:Program) (t:TypeId):Prop where
 h:One P t
class RowC (P:Program) (t:TypeId) (n:outParam Nat):Prop where
 h:Row P t n
class Tsz (P:Program) (t:TypeId) (n:outParam Nat):Prop where
 h:tsz P t=some n
class Zr (P:Program) (t:TypeId) (z:outParam Value):Prop where
 h:ZA9 P t=some z
class Fof (P:Program) (t:TypeId) (f:Nat) (off:outParam Nat):Prop where
 h:ZHB P t f=some off
class Elm (P:Program) (t:TypeId) (size bytes:outParam Nat):Prop where
 h:∃i z,P.info? t=some i/\i.size=size/\i.bytes=bytes/\ZA9 P t=some z/\Nat.beq z.cells.toList.length size=true/\Nat.blt 0 size=true
class Bod (P:Program) (g:FuncId):Prop where
 h:ZAp P g=true
def Ext (h h':Heap):Prop:=(∀b o,h.get b=some o->h'.get b=some o)/\h.nx<=h'.nx/\h'.gl=h.gl
theorem Ext.refl (h:Heap):Ext h h:=⟨fun _ _ x=>x,Nat.le_refl _,rfl⟩
theorem Ext.trans {h h1 h2:Heap}(a:Ext h h1)(b:Ext h1 h2):Ext h h2:=⟨fun c o x=>b.1 c o (a.1 c o x),Nat.le_trans a.2.1 b.2.1,b.2.2.trans a.2.2⟩
theorem Ext.get {h h':Heap}(a:Ext h h'){b:Nat}{o:AO}(hg:h.get b=some o):h'.get b=some o:=a.1 b o hg
theorem Ext.add {h:Heap}(hw:WF h)(o:AO):Ext h (h.add o) :=
 ⟨fun b x hb=>by rw[Heap.get_add_other];exact hb;have:=hw b x hb;omega,Nat.le_succ _,rfl⟩
theorem Ext.set {h0 h:Heap}(a:Ext h0 h)(hw:WF h0){b:Nat}(hb:h0.nx<=b)(o:AO):Ext h0 (h.set b o) :=
 ⟨fun c x hc=>by rw[Heap.get_set_other _ (by have:=hw c x hc;omega)];exact a.1 c x hc,a.2.1,a.2.2⟩
theorem Ext.del {h0 h:Heap}(a:Ext h0 h)(hw:WF h0){b:Nat}(hb:h0.nx<=b):Ext h0 (h.del b) :=
 ⟨fun c x hc=>by rw[Heap.get_del_other (by have:=hw c x hc;omega)];exact a.1 c x hc,a.2.1,a.2.2⟩
theorem Ext.addTo {h0 h:Heap}(a:Ext h0 h)(hw:WF h0)(o:AO):Ext h0 (h.add o) :=
 ⟨fun c x hc=>by rw[Heap.get_add_other (by have:=hw c x hc;have:=a.2.1;omega)];exact a.1 c x hc,Nat.le_trans a.2.1 (Nat.le_succ _),a.2.2⟩
theorem WF.add {h:Heap}(hw:WF h)(o:AO):WF (h.add o):=fun b x hb=>by
 by_cases e:b=h.nx
 ·subst e;exact Nat.lt_succ_self _
 ·rw[Heap.get_add_other e] at hb;exact Nat.lt_succ_of_lt (hw b x hb)
theorem ZIv {h h':Heap}{b o:Nat}(hg:h'.get b=h.get b):ZAS h' b o=ZAS h b o:=by unfold ZAS;rw[hg]
theorem ZP4 {h h':Heap}{b o n:Nat}(hg:h'.get b=h.get b):ZAw h' b o n=ZAw h b o n:=by unfold ZAw;rw[hg]
theorem ZH6 {h:Heap}{b o:Nat}{v:Value}(hc:ZAS h b o=some v):∃x,h.get b=some x:=by
 unfold ZAS at hc
 cases hg:h.get b with
 | none=>rw[hg] at hc;cases hc
 | some x=>exact⟨x,rfl⟩
theorem ZOH {h:Heap}{b o n:Nat}{v:List Value}(hc:ZAw h b o n=some v):∃x,h.get b=some x:=by
 unfold ZAw at hc
 cases hg:h.get b with
 | none=>rw[hg] at hc;cases hc
 | some x=>exact⟨x,rfl⟩
theorem Ext.cell {h h':Heap}(a:Ext h h'){b o:Nat}{v:Value}(hc:ZAS h b o=some v):ZAS h' b o=some v:=by
 obtain⟨x,hx⟩:=ZH6 hc;rw[ZIv (by rw[hx,a.1 b x hx])];exact hc
theorem Ext.row {h h':Heap}(a:Ext h h'){b o n:Nat}{v:List Value}(hc:ZAw h b o n=some v):ZAw h' b o n=some v:=by
 obtain⟨x,hx⟩:=ZOH hc;rw[ZP4 (by rw[hx,a.1 b x hx])];exact hc
theorem ZAb {h:Heap}{b o:Nat}{vs:List Value}{t:TypeId}{op:Bool}{v:Value}(hg:h.get b=some (.cells vs t op))(hv:nth vs o=some v):ZAS h b o=some v:=by
 unfold ZAS;rw[hg];exact hv
theorem ZAP {h:Heap}{b o n:Nat}{vs:List Value}{t:TypeId}{op:Bool}{v:List Value}(hg:h.get b=some (.cells vs t op))(hv:cut vs o n=some v):ZAw h b o n=some v:=by
 unfold ZAw;rw[hg];exact hv
theorem ZAK {h:Heap}{b o n k:Nat}{vs:List Value}{v:Value}(hr:ZAw h b o n=some vs)(hk:nth vs k=some v):ZAS h b (o+k)=some v:=by
 rw[ZAv] at hk;have hcut:∀{ws l:List Value} {x:Value},cut ws o n=some l->l[k]?=some x->ws[o+k]?=some x:=by
  intro ws l x hc hx;obtain⟨h1,h2⟩:=ZEE hc;rw[h2,List.getElem?_take] at hx
  split at hx
  ·rw[List.getElem?_drop] at hx;exact hx
  ·cases hx
 unfold ZAw at hr;unfold ZAS
 split at hr
 ·rename_i ws _ _ hg
  rw[ZAv];exact hcut hr hk
 ·rename_i lim ob hg
  unfold rdo at hr ⊢;cases ob <;> simp only at hr ⊢ <;> try cases hr
  rename_i c _ _
  cases hc:cut c.toList o n with
  | none=>rw[hc] at hr;cases hr
  | some l =>
   rw[hc] at hr;simp only at hr;cases hall:l.all (okv lim)
   ·rw[hall] at hr;cases hr
   ·rw[hall] at hr
    cases hr;rw[List.getElem?_map] at hk
    cases hx:l[k]? with
    | none=>rw[hx] at hk;cases hk
    | some x =>
     rw[hx] at hk;simp only[Option.map_some,Option.some.injEq] at hk;have hg2:=hcut hc hx;have hlt:o+k<c.toList.length:=(List.getElem?_eq_some_iff.1 hg2).1;have:cut c.toList (o+k) 1=some [x]:=by
      unfold cut;have hb:Nat.ble (Nat.add (o+k) 1) c.toList.length=true:=Nat.ble_eq_true_of_le hlt;rw[hb];simp only
      congr 1
      rw[List.drop_eq_getElem_cons hlt];rw[List.getElem?_eq_getElem hlt] at hg2;cases hg2
      rfl
     have hok:okv lim x=true:=List.all_eq_true.1 hall x (List.mem_of_getElem? hx);simp[this,hok,hk]
 ·cases hr
section
variable {fr:Fr}{m:Mem}{ds:List ADef}{h:Heap}{Q:CQ}{ops:Array Oper}{l:List Oper}{d:Nat}{ty:TypeId}{pos:String}{af:Array Edge}{gu:Option (Nat×Bool)}
theorem ZBC (hw:WF h->Wo P fr ops l m ds h Q):Wo P fr ops l m ds h Q :=
 ⟨fun k hd e hs ι0 h0 w0 ι w a F hr hf hF ad=>(hw (fun _ _ hg=>ZQM hr hg)).w k hd e hs ι0 h0 w0 ι w a F hr hf hF ad⟩
theorem ZAn {t:TypeId}{x:Operand}{v:Value}(hg:gk ops.toList m gu=some true)(hlt:Nat.blt d fr.nt=true)(hx:opk h m x=some v)
  (hk:∀h1,Ext h h1->WF h1->h1.get h.nx=some (.cells v.cells.toList t false)->h1.nx=h.nx+1->Wo P fr ops l (upd m d (.pointer (some ⟨h.nx,0,none⟩))) ds h1 Q):Wo P fr ops (⟨some d,.box t x,ty,pos,af,gu⟩::l) m ds h Q :=
 ZBC fun hw=>ZAV hg rfl rfl hlt (ZVn hx) (hk _ (Ext.add hw _) (hw.add _) Heap.get_add_same rfl)
theorem ZA2 {t:TypeId}{z:Value}(hg:gk ops.toList m gu=some true)(hlt:Nat.blt d fr.nt=true)(hz:ZA9 P t=some z)
  (hk:∀h1,Ext h h1->WF h1->h1.get h.nx=some (.cells z.cells.toList t false)->h1.nx=h.nx+1->Wo P fr ops l (upd m d (.pointer (some ⟨h.nx,0,none⟩))) ds h1 Q):Wo P fr ops (⟨some d,.alloc t,ty,pos,af,gu⟩::l) m ds h Q :=
 ZBC fun hw=>ZAV hg rfl rfl hlt (ZUf hz) (hk _ (Ext.add hw _) (hw.add _) Heap.get_add_same rfl)
theorem ZCe {t:TypeId}(hg:gk ops.toList m gu=some true)(hlt:Nat.blt d fr.nt=true)
  (hk:∀h1,Ext h h1->WF h1->h1.get h.nx=some (.map [] 0)->h1.nx=h.nx+1->Wo P fr ops l (upd m d (.map (some h.nx))) ds h1 Q):Wo P fr ops (⟨some d,.makeMap t none,ty,pos,af,gu⟩::l) m ds h Q :=
 ZBC fun hw=>ZAV hg rfl rfl hlt ZT1 (hk _ (Ext.add hw _) (hw.add _) Heap.get_add_same rfl)
structure Upd (h:Heap)(b:Nat)(o:AO)(h':Heap):Prop where
 at':h'.get b=some o
 other:∀c,c≠b->h'.get c=h.get c
 nx:h'.nx=h.nx
 gl:h'.gl=h.gl
theorem Upd.mk' (h:Heap)(b:Nat)(o:AO):Upd h b o (h.set b o):=⟨Heap.get_set_self h b o,fun _ hc=>Heap.get_set_other _ hc,rfl,rfl⟩
theorem Upd.ext {h0 h h':Heap}{b:Nat}{o:AO}(u:Upd h b o h')(a:Ext h0 h)(hw:WF h0)(hb:h0.nx<=b):Ext h0 h' :=
 ⟨fun c x hc=>by rw[u.other c (by have:=hw c x hc;omega)];exact a.1 c x hc,by rw[u.nx];exact a.2.1,u.gl.trans a.2.2⟩
theorem Upd.get {h h':Heap}{b c:Nat}{o x:AO}(u:Upd h b o h')(hc:c≠b)(hg:h.get c=some x):h'.get c=some x:=(u.other c hc).trans hg
theorem ZAf {t:TypeId}{x y:Operand}{b o n:Nat}{v:Value}{vs r:List Value}{el:TypeId}{op:Bool}(hg:gk ops.toList m gu=some true)(ht:tsz P t=some n)(hx:opk h m x=some (.pointer (some ⟨b,o,none⟩)))(hy:opk h m y=some v)(hgb:h.get b=some (.cells vs el op))(hn:v.cells.toList.length=n)(h1:allOne v.cells.toList=true)(hl:lay vs o v.cells.toList=some r)
  (hk:∀h1,Upd h b (.cells r el op) h1->Wo P fr ops l m ds h1 Q):Wo P fr ops (⟨none,.store t x y,ty,pos,af,gu⟩::l) m ds h Q :=
 ZGe hg rfl rfl (ZRM ht hx hy hgb hn h1 hl) (hk _ (Upd.mk' h b _))
end
noncomputable def opAt (ops:Array Oper)(i:Nat):Oper:=match nth ops.toList i with
 | some o=>o
 | none => ⟨none, .nilCheck (.tmp 0), 0, "", #[], none⟩
noncomputable def ixAt (ops:Array Oper)(ms:List Nat)(i:Nat):Ix:=⟨i,opAt ops i,match nth ms i with|some m=>m|none=>0⟩
noncomputable def phOf (ops:Array Oper)(ms:List Nat):List (List Nat×Option Nat)->List ZKD
 | []=>[]
 | p::l=>⟨p.1.map (ixAt ops ms),p.2.map (ixAt ops ms)⟩::phOf ops ms l
def ZTg (m:Nat):List Nat:=(List.range (Nat.log2 m+1)).filter (Nat.testBit m)
theorem ZO1 (m j:Nat):Nat.testBit m j=memb j (ZTg m):=by
 rw[Bool.eq_iff_iff,ZHF];unfold ZTg;rw[List.mem_filter,List.mem_range]
 constructor
 ·intro h
  refine⟨?_,h⟩;have h1:=Nat.ge_two_pow_of_testBit h;have hm:m≠0:=fun e=>by subst e;simp at h
  have:=(Nat.le_log2 hm).2 h1;omega
 ·exact fun h=>h.2
def Stl (P:Program)(ops:Array Oper)(m:Mem)(h:Heap):List Done->Prop
 | []=>True
 | d::l=>(QA P ops m h d/\∀t,d.x.o.dst=some t->m t=some d.v)/\Stl P ops m h l
theorem Stl.all {ops:Array Oper}{m:Mem}{h:Heap}{l:List Done}(hs:Stl P ops m h l):∀d∈l,QA P ops m h d/\∀t,d.x.o.dst=some t->m t=some d.v:=by
 induction l with
 | nil=>intro d hd;cases hd
 | cons x l ih =>
  intro d hd
  rcases List.mem_cons.1 hd with e|g
  ·rw[e];exact hs.1
  ·exact ih hs.2 d g
structure Wp (P:Program)(fr:Fr)(ops:Array Oper)(Q:CQ)(ms:List Nat)(qs:List Nat)(ef:Option Nat)(L:List (List Nat×Option Nat))(dn0 dn:List Done)(m:Mem)(ds:List ADef)(h:Heap):Prop where
 w:WQ P fr ops (qs.map (ixAt ops ms)) dn m h fun dn' m' h'=>(∀d∈dn0,QA P ops m' h' d/\∀t,d.x.o.dst=some t->m' t=some d.v) ∧
   match ef.map (ixAt ops ms) with
   | none=>Q .normal m' ds (ZA8 dn' h')
   | some x=>ZEp fr x.o=true/\W1 P fr ops x.o (ZB4 m' (x.o.looksAt ops)) ds (ZA8 (dn'.filter (ZAd x)) h') (fun v ds1 h1=>WD P fr ops Q (phOf ops ms L) (dn'.filter fun d=>!ZAd x d) (updO m' x.o v) ds1 h1) (fun v ds1 h1=>Q (.pan v) (ZJJ ops m') ds1 h1)
section
variable {fr:Fr}{m:Mem}{ds:List ADef}{h:Heap}{Q:CQ}{ops:Array Oper}{ms qs:List Nat}{ef:Option Nat}{L:List (List Nat×Option Nat)}{dn0 dn:List Done}
theorem ZAL (hm:P.follows .mixedOrders=true){i:Nat}(ms:List Nat)(qs:List Nat)(ef:Option Nat)(L:List (List Nat×Option Nat))(hd:ZJF ops=true)(hL:ZGg (ixs ops.toList)=phOf ops ms ((qs,ef)::L))
  (hw:Wp P fr ops Q ms qs ef L [] [] m ds h):Wc P fr (.region i ops true) m ds h Q:=by
 refine ZSB hm hd ?_;rw[hL];exact hw.w
theorem ZAB {i:Nat}{o:Oper}{d:Nat}{v:Value}(ho:opAt ops i=o)(hq:ZD0 o.op=.pure)(hd:o.dst=some d)(hlt:Nat.blt d fr.nt=true)(hg:gk ops.toList (ZB4 m (o.looksAt ops)) o.guard=some true)
  (hA:∀bg,Aop P o (ZB4 m (o.looksAt ops)) (hz bg h) v (hz bg h)) (hk:Wp P fr ops Q ms qs ef L dn0 (⟨ixAt ops ms i,v,none⟩::dn) (upd m d v) ds h):Wp P fr ops Q ms (i::qs) ef L dn0 dn m ds h:=by
 subst ho;refine⟨⟨v,none,?_,?_,(fun _ _ _ hb=>nomatch hb),?_⟩⟩
 ·show ZEp fr (opAt ops i)=true
  unfold ZEp;rw[hd];exact hlt
 ·exact .inr (.inl ⟨hg,hq,rfl,hA⟩)
 ·have:updO m (ixAt ops ms i).o v=upd m d v:=by show updO m (opAt ops i) v=_;unfold updO;rw[hd]
  rw[this];exact hk.w
theorem ZNo {i:Nat}{o:Oper}{d:Nat}{p:Prop} [Decidable p](ho:opAt ops i=o)(hq:ZD0 o.op=.pure)(hd:o.dst=some d)(hlt:Nat.blt d fr.nt=true)(hg:gk ops.toList (ZB4 m (o.looksAt ops)) o.guard=some true)
  (hA:∀bg,Aop P o (ZB4 m (o.looksAt ops)) (hz bg h) (.bool (decide p)) (hz bg h)) (ht:p->Wp P fr ops Q ms qs ef L dn0 (⟨ixAt ops ms i,.bool true,none⟩::dn) (upd m d (.bool true)) ds h)
  (hn:¬p->Wp P fr ops Q ms qs ef L dn0 (⟨ixAt ops ms i,.bool false,none⟩::dn) (upd m d (.bool false)) ds h):Wp P fr ops Q ms (i::qs) ef L dn0 dn m ds h:=by
 by_cases hp:p
 ·rw[decide_eq_true hp] at hA;exact ZAB ho hq hd hlt hg hA (ht hp)
 ·rw[decide_eq_false hp] at hA;exact ZAB ho hq hd hlt hg hA (hn hp)
theorem ZAT {i:Nat}{o:Oper}{d:Nat}(ho:opAt ops i=o)(hd:o.dst=some d)(hlt:Nat.blt d fr.nt=true)(hg:gk ops.toList (ZB4 m (o.looksAt ops)) o.guard=some false)
  (hk:Wp P fr ops Q ms qs ef L dn0 (⟨ixAt ops ms i,.tuple ⟨[]⟩,none⟩::dn) (upd m d (.tuple ⟨[]⟩)) ds h):Wp P fr ops Q ms (i::qs) ef L dn0 dn m ds h:=by
 subst ho;refine⟨⟨.tuple ⟨[]⟩,none,?_,?_,(fun _ _ _ hb=>nomatch hb),?_⟩⟩
 ·show ZEp fr (opAt ops i)=true
  unfold ZEp;rw[hd];exact hlt
 ·exact .inl ⟨hg,rfl,rfl⟩
 ·have:updO m (ixAt ops ms i).o (.tuple ⟨[]⟩)=upd m d (.tuple ⟨[]⟩):=by show updO m (opAt ops i) _=_;unfold updO;rw[hd]
  rw[this];exact hk.w
theorem ZDS {i:Nat}{o:Oper}{d:Nat}{nk:NK}{ao:AO}(ho:opAt ops i=o)(hq:ZD0 o.op=.alloc)(hd:o.dst=some d)(hlt:Nat.blt d fr.nt=true)(hg:gk ops.toList (ZB4 m (o.looksAt ops)) o.guard=some true)
  (hA:∀bg e,Sat (ZB4 m (o.looksAt ops)) e->ZEq P o (hz bg h) e=some (nk,ao)) (hk:Wp P fr ops Q ms qs ef L dn0 (⟨ixAt ops ms i,nk.mk h.nx,some (h.nx,nk,ao)⟩::dn) (upd m d (nk.mk h.nx)) ds ⟨h.t,Nat.succ h.nx,h.gl⟩):Wp P fr ops Q ms (i::qs) ef L dn0 dn m ds h:=by
 subst ho;refine⟨⟨nk.mk h.nx,some (h.nx,nk,ao),?_,?_,?_,?_⟩⟩
 ·show ZEp fr (opAt ops i)=true
  unfold ZEp;rw[hd];exact hlt
 ·exact .inr (.inr ⟨hg,hq,h.nx,nk,ao,rfl,hA,rfl⟩)
 ·intro c nk' ao' hb;cases hb;rfl
 ·have:updO m (ixAt ops ms i).o (nk.mk h.nx)=upd m d (nk.mk h.nx):=by show updO m (opAt ops i) _=_;unfold updO;rw[hd]
  rw[this];exact hk.w
theorem ZAI {i:Nat}{o:Oper}{h1:Heap}{dn1:List Done}{qs':List Nat}{ef':Option Nat}{L':List (List Nat×Option Nat)}(bf:List Nat)(hbf:ZTg (ixAt #[] ms i).m=bf)(ho:opAt ops i=o)(hst:Stl P ops m h dn0)(hd:ZEp fr o=true)(hh:ZA8 (dn.filter fun d=>memb d.x.i bf) h=h1)(hdn:(dn.filter fun d=>!memb d.x.i bf)=dn1)
  (hW:W1 P fr ops o (ZB4 m (o.looksAt ops)) ds h1 (fun v ds1 h2=>Wp P fr ops Q ms qs' ef' L' dn1 dn1 (updO m o v) ds1 h2) (fun v ds1 h2=>Q (.pan v) (ZJJ ops m) ds1 h2)):Wp P fr ops Q ms [] (some i) ((qs',ef')::L') dn0 dn m ds h:=by
 have hb:ZAd (ixAt ops ms i)=fun d=>memb d.x.i bf:=by
  funext d
  show Nat.testBit (ixAt #[] ms i).m d.x.i=_
  rw[ZO1,hbf]
 subst ho;subst hh;subst hdn;refine⟨⟨hst.all,hd,?_⟩⟩
 show W1 P fr ops (opAt ops i) (ZB4 m ((opAt ops i).looksAt ops)) ds (ZA8 (dn.filter (ZAd (ixAt ops ms i))) h) (fun v ds1 h1=>WD P fr ops Q (phOf ops ms ((qs',ef')::L')) (dn.filter fun d=>!ZAd (ixAt ops ms i) d) (updO m (opAt ops i) v) ds1 h1) _
 rw[hb];exact⟨fun k ho e hs ι w a F hr hf hF Kx Qx T=>hW.w k ho e hs ι w a F hr hf hF Kx Qx ⟨fun v ds1 h1 hK=>T.normal v ds1 h1 hK.w,T.pan⟩⟩
theorem ZAO {h1:Heap}(hst:Stl P ops m h dn0)(hh:ZA8 dn h=h1)(hQ:Q .normal m ds h1):Wp P fr ops Q ms [] none L dn0 dn m ds h:=by
 subst hh;exact⟨⟨hst.all,hQ⟩⟩
def NoB (dn:List Done):Prop:=∀d∈dn,d.b=none
theorem ZPh:NoB []:=fun _ h=>nomatch h
theorem ZNz {x:Ix}{v:Value}{dn:List Done}(hn:NoB dn):NoB (⟨x,v,none⟩::dn):=fun d hd=>by
 rcases List.mem_cons.1 hd with e|g
 ·rw[e]
 ·exact hn d g
theorem ZGL {f:Done->Bool}{dn:List Done}(hn:NoB dn):NoB (dn.filter f):=fun d hd=>hn d (List.mem_filter.1 hd).1
theorem ZGj {dn:List Done}(hn:NoB dn):ZA8 dn h=h:=by
 induction dn with
 | nil=>rfl
 | cons d dn ih =>
  rw[ZCn,hn d List.mem_cons_self];exact ih fun x hx=>hn x (List.mem_cons_of_mem _ hx)
theorem ZNI {f:Done->Bool}{dn:List Done}(hn:NoB dn):ZA8 (dn.filter f) h=h:=ZGj (ZGL hn)
end
variable {P:Program}
section
variable {ops:Array Oper}{ms:List Nat}{m:Mem}{h:Heap}{l l':List Done}{i:Nat}
theorem ZAA (hl:l=[]):Stl P ops m h l:=by subst hl;trivial
theorem ZBZ {v:Value}{o:Oper}{d:Nat}(hl:l=⟨ixAt ops ms i,v,none⟩::l')(ho:opAt ops i=o)(hq:ZD0 o.op=.pure)(hd:o.dst=some d)(hg:gk ops.toList (ZB4 m (o.looksAt ops)) o.guard=some true)
  (hA:∀bg,Aop P o (ZB4 m (o.looksAt ops)) (hz bg h) v (hz bg h)) (hm:m d=some v) (ht:Stl P ops m h l'):Stl P ops m h l:=by
 subst hl;subst ho;refine⟨⟨.inr (.inl ⟨hg,hq,rfl,hA⟩),fun t hx=>?_⟩,ht⟩;have hx':(opAt ops i).dst=some t:=hx;rw[hd] at hx';cases hx';exact hm
theorem ZGK {o:Oper}{d:Nat}(hl:l=⟨ixAt ops ms i,.tuple ⟨[]⟩,none⟩::l')(ho:opAt ops i=o)(hd:o.dst=some d)(hg:gk ops.toList (ZB4 m (o.looksAt ops)) o.guard=some false)
  (hm:m d=some (.tuple ⟨[]⟩)) (ht:Stl P ops m h l'):Stl P ops m h l:=by
 subst hl;subst ho;refine⟨⟨.inl ⟨hg,rfl,rfl⟩,fun t hx=>?_⟩,ht⟩;have hx':(opAt ops i).dst=some t:=hx;rw[hd] at hx';cases hx';exact hm
theorem ZTk {o:Oper}{d b:Nat}{nk:NK}{ao:AO}(hl:l=⟨ixAt ops ms i,nk.mk b,some (b,nk,ao)⟩::l')(ho:opAt ops i=o)(hq:ZD0 o.op=.alloc)(hd:o.dst=some d)(hg:gk ops.toList (ZB4 m (o.looksAt ops)) o.guard=some true)
  (hA:∀bg e,Sat (ZB4 m (o.looksAt ops)) e->ZEq P o (hz bg h) e=some (nk,ao)) (hm:m d=some (nk.mk b)) (ht:Stl P ops m h l'):Stl P ops m h l:=by
 subst hl;subst ho;refine⟨⟨.inr (.inr ⟨hg,hq,b,nk,ao,rfl,hA,rfl⟩),fun t hx=>?_⟩,ht⟩;have hx':(opAt ops i).dst=some t:=hx;rw[hd] at hx';cases hx';exact hm
end
structure KeyK (P:Program)(t:TypeId) (α:Type) [DecidableEq α] where
 enc:α->Value
 ks:KS
 hks:ZD6 P t=some ks
 flat:∀a,flat (enc a)=true
 ok:∀a,okK ks (enc a)=true
 eq:∀a b,eqK ks (enc a) (enc b)=some (decide (a=b))
 same:∀a,Instr.sameBits 10000 (enc a) (enc a)=true
def lkp {α:Type} [DecidableEq α](k:α):List (α×Value)->Option Value
 | []=>none
 | p::l=>if k=p.1 then some p.2 else lkp k l
def idx {α:Type} [DecidableEq α](k:α):List (α×Value)->Nat->Option Nat
 | [],_=>none
 | p::l,i=>if k=p.1 then some i else idx k l (i+1)
def setK {α:Type} [DecidableEq α](k:α)(v:Value):List (α×Value)->List (α×Value)
 | []=>[(k,v)]
 | p::l=>if k=p.1 then (k,v)::l else p::setK k v l
def delK {α:Type} [DecidableEq α](k:α):List (α×Value)->List (α×Value)
 | []=>[]
 | p::l=>if k=p.1 then l else p::delK k l
section maps
variable {t:TypeId} {α:Type} [DecidableEq α](K:KeyK P t α)
def Ents (es:List MapEntry)(l:List (α×Value)):Prop:=es.map (fun e=>(e.key,e.val))=l.map fun p=>(K.enc p.1,p.2)
theorem Ents.fk {es:List MapEntry}{l:List (α×Value)}(h:Ents K es l)(k:α)(i:Nat):Dx.fk K.ks (K.enc k) es i=some (idx k l i):=by
 induction es generalizing l i with
 | nil =>
  cases l with
  | nil=>rfl
  | cons p l=>cases h
 | cons e es ih =>
  cases l with
  | nil=>cases h
  | cons p l =>
   unfold Ents at h;simp only[List.map_cons,List.cons.injEq,Prod.mk.injEq] at h;rw[ZMA,h.1.1,K.eq];unfold idx
   by_cases hk:k=p.1
   ·simp[hk]
   ·simp[hk];exact ih h.2 (i+1)
theorem ZDy (k:α):∀(l:List (α×Value))(i:Nat),(idx k l i=none/\lkp k l=none)\/∃j v,idx k l i=some (i+j)/\lkp k l=some v/\(∃p,l[j]?=some p/\p=(k,v))/\setK k v l=l:=by
 intro l
 induction l with
 | nil=>intro i;exact .inl ⟨rfl,rfl⟩
 | cons p l ih =>
  intro i;unfold idx lkp
  by_cases hk:k=p.1
  ·refine .inr ⟨0,p.2,by simp[hk],by simp[hk],⟨p,rfl,by rw[hk]⟩,by simp[setK,hk]⟩
  ·simp only[hk,if_false]
   rcases ih (i+1) with ⟨h1,h2⟩|⟨j,v,h1,h2,⟨q,h3,h4⟩,h5⟩
   ·exact .inl ⟨h1,h2⟩
   ·exact .inr ⟨j+1,v,by rw[h1];congr 1;omega,h2,⟨q,by simpa using h3,h4⟩,by simp[setK,hk,h5]⟩
theorem ZHs {k:α}{v:Value}:∀{l:List (α×Value)},lkp k l=none->setK k v l=l++[(k,v)]
 | [],_=>rfl
 | p::l,h=>by
  unfold lkp at h
  by_cases hk:k=p.1
  ·simp[hk] at h
  ·simp only[hk,if_false] at h
   simp[setK,hk,ZHs h]
theorem ZLk {k:α}{v:Value}:∀{l:List (α×Value)}{i j:Nat},idx k l i=some (i+j)->setK k v l=l.set j (k,v)
 | [],_,_,h=>by cases h
 | p::l,i,j,h=>by
  unfold idx at h
  by_cases hk:k=p.1
  ·simp only[hk,if_true,Option.some.injEq] at h
   have:j=0:=by omega
   subst this;simp[setK,hk]
  ·simp only[hk,if_false] at h
   cases j with
   | zero =>
    exfalso
    rcases ZDy k l (i+1) with ⟨h1,_⟩|⟨j,_,h1,_⟩
    ·rw[h1] at h;cases h
    ·rw[h1] at h;simp at h;omega
   | succ j =>
    have:=ZLk (k:=k) (v:=v) (l:=l) (i:=i+1) (j:=j) (by rw[h];congr 1;omega);simp[setK,hk,this]
theorem ZBw (k k':α)(v:Value):∀(l:List (α×Value)),lkp k' (setK k v l)=if k'=k then some v else lkp k' l
 | []=>by simp[setK,lkp]
 | p::l=>by
  unfold setK
  by_cases hk:k=p.1
  ·rw[if_pos hk]
   simp only[lkp]
   by_cases hq:k'=k
   ·simp[hq]
   ·have:¬k'=p.1:=by rw[<-hk];exact hq
    simp[hq,this]
  ·rw[if_neg hk]
   simp only[lkp,ZBw k k' v l]
   by_cases hq:k'=p.1
   ·have:¬k'=k:=fun e=>hk (e.symm.trans hq)
    simp[hq,this];intro e;exact absurd e.symm hk
   ·simp[hq]
theorem Ents.set {es:List MapEntry}{l:List (α×Value)}(h:Ents K es l){k:α}{v:Value}{j b:Nat}(hi:idx k l 0=some j):Ents K (es.set j ⟨K.enc k,v,b⟩) (setK k v l):=by
 have:=ZLk (k:=k) (v:=v) (l:=l) (i:=0) (j:=j) (by simpa using hi);rw[this];unfold Ents at h ⊢;rw[List.map_set,h,List.map_set]
theorem Ents.app {es:List MapEntry}{l:List (α×Value)}(h:Ents K es l){k:α}{v:Value}{b:Nat}(hi:lkp k l=none):Ents K (es++[⟨K.enc k,v,b⟩]) (setK k v l):=by
 rw[ZHs hi];unfold Ents at h ⊢;rw[List.map_append,h,List.map_append]
 rfl
def ZD9 (h:Heap)(b:Nat)(l:List (α×Value)):Prop:=∃es clock,h.get b=some (.map es clock)/\Ents K es l
theorem ZD9.new {h:Heap}{b:Nat}(hg:h.get b=some (.map [] 0)):ZD9 K h b []:=⟨[],0,hg,rfl⟩
theorem ZD9.ext {h h':Heap}{b:Nat}{l:List (α×Value)}(hm:ZD9 K h b l)(he:Ext h h'):ZD9 K h' b l:=by
 obtain⟨es,c,h1,h2⟩:=hm;exact⟨es,c,he.get h1,h2⟩
theorem ZD9.get {h h':Heap}{b:Nat}{l:List (α×Value)}(hm:ZD9 K h b l)(he:h'.get b=h.get b):ZD9 K h' b l:=by
 obtain⟨es,c,h1,h2⟩:=hm;exact⟨es,c,he.trans h1,h2⟩
section
variable {m:Mem}{h:Heap}{d:Option Tmp}{ty:TypeId}{pos:String}{af:Array Edge}{gu:Option (Nat×Bool)}
theorem ZJp {tm el:TypeId}{x y:Operand}{b:Nat}{l:List (α×Value)}{k:α}{z:Value}(hu:P.underlying tm=some (.map t el))(hz:ZA9 P el=some z)(hx:opk h m x=some (.map (some b)))(hm:ZD9 K h b l)(hy:opk h m y=some (K.enc k)) :
  Aop P ⟨d,.lookup tm x y false,ty,pos,af,gu⟩ m h ((lkp k l).getD z) h :=
 ZAe fun e hs=>by
  obtain⟨es,clock,h1,h2⟩:=hm
  show ZEG P h e tm x y false=_
  unfold ZEG;rw[ZAM hs hx,ZAM hs hy];have:ZEz P tm (.map (some b)) (K.enc k) false h=some ((lkp k l).getD z):=by
   unfold ZEz;simp only[hu,K.hks,hz,ZNT,h1,K.flat,K.ok,h2.fk]
   rcases ZDy k l 0 with ⟨g1,g2⟩|⟨j,v,g1,g2,⟨p,g3,g4⟩,_⟩
   ·rw[g1,g2];rfl
   ·rw[g1,g2]
    simp only[Nat.zero_add,ZAv];have:(es.map fun e=>(e.key,e.val))[j]?=some (K.enc k,v):=by rw[h2];simp[g3,g4]
    rw[List.getElem?_map] at this
    cases he:es[j]? with
    | none=>rw[he] at this;cases this
    | some e=>rw[he] at this;simp at this;simp[this.2]
  simp only[this]
theorem ZON {tm el:TypeId}{x y:Operand}{b:Nat}{l:List (α×Value)}{k:α}{z:Value}(hu:P.underlying tm=some (.map t el))(hz:ZA9 P el=some z)(hx:opk h m x=some (.map (some b)))(hm:ZD9 K h b l)(hy:opk h m y=some (K.enc k)) :
  Aop P ⟨d,.lookup tm x y true,ty,pos,af,gu⟩ m h (.tuple ⟨[(lkp k l).getD z,.bool (lkp k l).isSome]⟩) h :=
 ZAe fun e hs=>by
  obtain⟨es,clock,h1,h2⟩:=hm
  show ZEG P h e tm x y true=_
  unfold ZEG;rw[ZAM hs hx,ZAM hs hy];have:ZEz P tm (.map (some b)) (K.enc k) true h=some (.tuple ⟨[(lkp k l).getD z,.bool (lkp k l).isSome]⟩):=by
   unfold ZEz;simp only[hu,K.hks,hz,ZNT,h1,K.flat,K.ok,h2.fk]
   rcases ZDy k l 0 with ⟨g1,g2⟩|⟨j,v,g1,g2,⟨p,g3,g4⟩,_⟩
   ·rw[g1,g2];rfl
   ·rw[g1,g2]
    simp only[Nat.zero_add,ZAv];have:(es.map fun e=>(e.key,e.val))[j]?=some (K.enc k,v):=by rw[h2];simp[g3,g4]
    rw[List.getElem?_map] at this
    cases he:es[j]? with
    | none=>rw[he] at this;cases this
    | some e=>rw[he] at this;simp at this;simp[this.2]
  simp only[this]
end
section
variable {fr:Fr}{m:Mem}{ds:List ADef}{h:Heap}{Q:CQ}{ops:Array Oper}{lo:List Oper}{d:Option Tmp}{ty:TypeId}{pos:String}{af:Array Edge}{gu:Option (Nat×Bool)}
theorem ZJh {tm el:TypeId}{b:Nat}{l:List (α×Value)}{k:α}{v:Value}(hu:P.underlying tm=some (.map t el))(hm:ZD9 K h b l) :
  ∃o,ZBh P tm (.map (some b)) (K.enc k) v h=some (h.set b o)/\∀h',h'.get b=some o->ZD9 K h' b (setK k v l):=by
 obtain⟨es,clock,h1,h2⟩:=hm;unfold ZBh;simp only[hu,K.hks,h1,K.flat,K.ok,h2.fk]
 rcases ZDy k l 0 with ⟨g1,g2⟩|⟨j,v0,g1,g2,⟨p,g3,g4⟩,_⟩
 ·rw[g1]
  exact⟨_,rfl,fun h' hh=>⟨_,_,hh,h2.app K g2⟩⟩
 ·rw[g1]
  simp only[Nat.zero_add,ZAv];have:(es.map fun e=>(e.key,e.val))[j]?=some (K.enc k,v0):=by rw[h2];simp[g3,g4]
  rw[List.getElem?_map] at this
  cases he:es[j]? with
  | none=>rw[he] at this;cases this
  | some e =>
   rw[he] at this;simp at this;simp only[this.1,K.same];exact⟨_,rfl,fun h' hh=>⟨_,_,hh,h2.set K (by simpa using g1)⟩⟩
theorem ZGt {tm el:TypeId}{x y z:Operand}{b:Nat}{l:List (α×Value)}{k:α}{v:Value}(hg:gk ops.toList m gu=some true)(hu:P.underlying tm=some (.map t el))(hx:opk h m x=some (.map (some b)))(hm:ZD9 K h b l)(hy:opk h m y=some (K.enc k))(hz:opk h m z=some v)
  (hk:∀h1 o,Upd h b o h1->ZD9 K h1 b (setK k v l)->Wo P fr ops lo m ds h1 Q):Wo P fr ops (⟨none,.mapUpdate tm x y z,ty,pos,af,gu⟩::lo) m ds h Q:=by
 obtain⟨o,h1,h2⟩:=ZJh K (v:=v) (k:=k) hu hm;refine ZGe (v:=.tuple ⟨[]⟩) hg rfl rfl (ZAe fun e hs=>?_) (hk _ o (Upd.mk' h b o) (h2 _ (Heap.get_set_self _ _ _)))
 show ZBk P h e tm x y z=_
 unfold ZBk;rw[ZAM hs hx,ZAM hs hy,ZAM hs hz];simp only[h1]
end
end maps
def ZFT (h0 h:Heap)(v:Value)(el:TypeId)(sz:Nat)(cs:List Value)(n:Nat):Prop :=
 (v=.slice none 0 0/\cs=[]/\n=0)\/∃b,v=.slice (some ⟨b,0,some sz⟩) n n/\h.get b=some (.cells cs el true)/\cs.length=n*sz/\h0.nx<=b
theorem ZFT.nil (h0 h:Heap)(el:TypeId)(sz:Nat):ZFT h0 h (.slice none 0 0) el sz [] 0:=.inl ⟨rfl,rfl,rfl⟩
theorem ZFT.ext {h0 h h':Heap}{v:Value}{el:TypeId}{sz:Nat}{cs:List Value}{n:Nat}(ho:ZFT h0 h v el sz cs n)(he:Ext h h'):ZFT h0 h' v el sz cs n:=by
 rcases ho with g|⟨b,h1,h2,h3,h4⟩
 ·exact .inl g
 ·exact .inr ⟨b,h1,he.get h2,h3,h4⟩
theorem ZFT.is {h0 h:Heap}{v:Value}{el:TypeId}{sz:Nat}{cs:List Value}{n:Nat}(ho:ZFT h0 h v el sz cs n):∃a,v=.slice a n n/\cs.length=n*sz/\∀i<cs.length,∃b o oa,a=some ⟨b,o,oa⟩/\ZAS h b (o+i)=cs[i]?:=by
 rcases ho with ⟨rfl,rfl,rfl⟩|⟨b,rfl,h2,h3,h4⟩
 ·exact⟨none,rfl,by simp,fun i hi=>by simp at hi⟩
 ·refine⟨_,rfl,h3,fun i hi=>⟨b,0,_,rfl,?_⟩⟩
  rw[List.getElem?_eq_getElem hi];exact ZAb h2 (by rw[ZAv,Nat.zero_add,List.getElem?_eq_getElem hi])
section
variable {fr:Fr}{m:Mem}{ds:List ADef}{h:Heap}{Q:CQ}{ops:Array Oper}{lo:List Oper}{d:Nat}{ty:TypeId}{pos:String}{af:Array Edge}{gu:Option (Nat×Bool)}
def Keep (h h':Heap)(b:Option Nat):Prop:=∀c o,b≠some c->h.get c=some o->h'.get c=some o
def ZBM:Value->Option Nat
 | .slice (some a) _ _=>some a.block
 | _=>none
theorem ZNJ {h0:Heap}{tS tX el:TypeId}{sz by':Nat}{v x:Value}{cs l:List Value}{n k:Nat}(hw0:WF h0)(hw:WF h)(he0:Ext h0 h)(hS:P.underlying tS=some (.slice el))(hE:Elm P el sz by')(ho:ZFT h0 h v el sz cs n)(hsrc:asrc P el sz tX x h=some (k,l))(hl:l.length=k*sz)(h1:allOne l=true)
  (hb:((n+k)+(n+k) / 4+512)*by'<=281474976710656) (hb2:n+k<281474976710656) (hk0:0<k) :
  ∃v' h',ZCX P tS tX v x h=.ok v' h'/\ZFT h0 h' v' el sz (cs++l) (n+k)/\Ext h0 h'/\Keep h h' (ZBM v):=by
 obtain⟨i,z,i1,i2,i3,i4,i5,i6⟩:=hE.h;unfold ZCX;simp only[hS,i1,i4,i2,i5,i6,hsrc,i3];have e1:Nat.ble (Nat.mul (Nat.add (Nat.add (Nat.add n k) (Nat.div (Nat.add n k) 4)) 512) by') 281474976710656=true:=Nat.ble_eq_true_of_le hb;have e2:Nat.blt (Nat.add n k) 281474976710656=true:=by rw[Nat.blt_eq];exact hb2
 rcases ho with ⟨rfl,rfl,rfl⟩|⟨b,rfl,g2,g3,g4⟩
 ·have e3:Nat.ble (Nat.add 0 k) 0=false:=by
   cases hq:Nat.ble (Nat.add 0 k) 0 with
   | false=>rfl
   | true=>have:=Nat.le_of_ble_eq_true hq;simp at this;omega
  have e4:Nat.beq 0 0=true:=rfl;simp only[e3,e4,e1,e2];refine⟨_,_,rfl,.inr ⟨h.nx,?_,?_,?_,he0.2.1⟩,he0.addTo hw0 _,?_⟩
  ·simp
  ·rw[Heap.get_add_same];simp
  ·simp[hl]
  ·intro c o _ hc
   rw[Heap.get_add_other];exact hc;have:=hw c o hc;omega
 ·have e3:Nat.ble (Nat.add n k) n=false:=by
   cases hq:Nat.ble (Nat.add n k) n with
   | false=>rfl
   | true=>have:=Nat.le_of_ble_eq_true hq;have:n+k<=n:=this;omega
  have hsz:sz≠0:=by
   rw[Nat.blt_eq] at i6;omega
  have hcut:cut cs 0 (Nat.mul n sz)=some cs:=by
   unfold cut;have:Nat.ble (Nat.add 0 (Nat.mul n sz)) cs.length=true:=Nat.ble_eq_true_of_le (by show 0+n*sz<=cs.length;omega);rw[this];simp only[List.drop_zero]
   congr 1
   exact List.take_of_length_le (by show cs.length<=n*sz;omega)
  cases sz with
  | zero=>exact absurd rfl hsz
  | succ sz =>
   have e5:Nat.beq (sz+1) (sz+1)=true:=Nat.beq_refl _;have e6:Nat.beq 0 0=true:=rfl;have e7:Nat.beq el el=true:=Nat.beq_refl _;simp only[g2,h1,e3,e1,e2,hcut,e5,e6,e7];refine⟨_,_,rfl,.inr ⟨h.nx,?_,?_,?_,he0.2.1⟩,(he0.del hw0 g4).addTo hw0 _,?_⟩
   ·rfl
   ·exact Heap.get_add_same (h:=h.del b)
   ·simp[hl,g3,Nat.add_mul]
   ·intro c o hc hg
    have hcb:c≠b:=fun e=>hc (by simp[ZBM,e]);rw[Heap.get_add_other (h:=h.del b) (by have:=hw c o hg;show c≠h.nx;omega),Heap.get_del_other hcb];exact hg
theorem ZAs {el tX:TypeId}{sz b o cap n:Nat}{oa:Option Nat}{dd:TypeDesc}{l:List Value}(hX:P.underlying tX=some dd)(hni:∀k,dd≠.int k)(hr:ZAw h b o (n*sz)=some l):asrc P el sz tX (.slice (some ⟨b,o,oa⟩) n cap) h=some (n,l):=by
 have h0:n=0->l=[]:=fun hn=>by
  subst hn;rw[Nat.zero_mul] at hr;unfold ZAw at hr
  split at hr
  ·obtain⟨_,h2⟩:=ZEE hr
   rw[h2];simp
  ·unfold rdo at hr
   split at hr
   ·split at hr
    ·rename_i hc
     obtain⟨_,h2⟩:=ZEE hc;rw[List.take_zero] at h2;subst h2;simp at hr;exact hr
    ·cases hr
   ·cases hr
  ·cases hr
 unfold asrc;rw[hX]
 have key:(match h.get b with
   | some (.cells vs _ _)=>match cut vs o (Nat.mul n sz) with|some l=>some (n,l)|none=>none
   | some (.ro lim ob)=>match rdo lim ob o (Nat.mul n sz) with|some l=>some (n,l)|none=>none
   | _=>none)=some (n,l):=by
  unfold ZAw at hr
  split at hr
  ·rename_i vs _ _ hg
   have hr':cut vs o (Nat.mul n sz)=some l:=hr;simp only[hg,hr']
  ·rename_i lim ob hg
   have hr':rdo lim ob o (Nat.mul n sz)=some l:=hr;simp only[hg,hr']
  ·cases hr
 cases dd with
 | int k=>exact absurd rfl (hni k)
 | _ =>
  cases oa with
  | none=>exact key
  | some q =>
   cases q with
   | succ q=>exact key
   | zero =>
    cases n with
    | succ n=>exact key
    | zero=>rw[h0 rfl];rfl
end
variable {P:Program}
abbrev i64 (n:Int):Value:=.int .i64 n
section
variable {fr:Fr}{m:Mem}{ds:List ADef}{h:Heap}{Q:CQ}{ops:Array Oper}{l:List Oper}{o:Oper}
theorem ZJM {c:Call}{f:Operand}{g:FuncId}{first cap args:List Value}{b:Bool}{d:Nat}(hg:gk ops.toList m o.guard=some true)(hop:o.op=.call c)(hcal:c.callee=.value f)(hf:opk h m f=some (.func (.func g) ⟨first⟩ ⟨cap⟩))(ha:opkl h m c.args.toList=some args)
  (hb:ZAp P g=true) (hd:o.dst=some d) (hlt:Nat.blt d fr.nt=true) (hv:Sv P g (first++(args++cap)) h (RetP fun v h'=>v=.bool b/\Ext h h'))
  (ht:b=true->∀h1,Ext h h1->Wo P fr ops l (upd m d (.bool true)) ds h1 Q) (hn:b=false->∀h1,Ext h h1->Wo P fr ops l (upd m d (.bool false)) ds h1 Q):Wo P fr ops (o::l) m ds h Q:=by
 refine ZAa hg hop hcal hf ha hb hd hlt hv ?_;rintro _ h1 ⟨rfl,he⟩;cases b
 ·exact hn rfl h1 he
 ·exact ht rfl h1 he
theorem ZDo {c:Call}{f:Operand}{g:FuncId}{first cap args:List Value}{b:Bool}{d:Nat}(hg:gk ops.toList m o.guard=some true)(hop:o.op=.call c)(hcal:c.callee=.value f)(hf:opk h m f=some (.func (.func g) ⟨first⟩ ⟨cap⟩))(ha:opkl h m c.args.toList=some args)
  (hb:ZAp P g=true) (hd:o.dst=some d) (hlt:Nat.blt d fr.nt=true) (hv:Sv P g (first++(args++cap)) h (RetP fun v h'=>v=.bool b/\h'=h))
  (ht:b=true->Wo P fr ops l (upd m d (.bool true)) ds h Q) (hn:b=false->Wo P fr ops l (upd m d (.bool false)) ds h Q):Wo P fr ops (o::l) m ds h Q:=by
 refine ZAa hg hop hcal hf ha hb hd hlt hv ?_;rintro _ _ ⟨rfl,rfl⟩;cases b
 ·exact hn rfl
 ·exact ht rfl
theorem ZBF {c:Call}{f:Operand}{g:FuncId}{first cap args:List Value}{v:Value}{d:Nat}(hg:gk ops.toList m o.guard=some true)(hop:o.op=.call c)(hcal:c.callee=.value f)(hf:opk h m f=some (.func (.func g) ⟨first⟩ ⟨cap⟩))(ha:opkl h m c.args.toList=some args)
  (hb:ZAp P g=true) (hd:o.dst=some d) (hlt:Nat.blt d fr.nt=true) (hv:Sv P g (first++(args++cap)) h (RetP fun v' h'=>v'=v/\h'=h))
  (hk:Wo P fr ops l (upd m d v) ds h Q):Wo P fr ops (o::l) m ds h Q:=by
 refine ZAa hg hop hcal hf ha hb hd hlt hv ?_;rintro _ h1 ⟨rfl,e⟩;subst e;exact hk
theorem ZBv {c:Call}{f:Operand}{g:FuncId}{first cap args:List Value}{v:Value}{d:Nat}(hg:gk ops.toList m o.guard=some true)(hop:o.op=.call c)(hcal:c.callee=.value f)(hf:opk h m f=some (.func (.func g) ⟨first⟩ ⟨cap⟩))(ha:opkl h m c.args.toList=some args)
  (hb:ZAp P g=true) (hd:o.dst=some d) (hlt:Nat.blt d fr.nt=true) (hv:Sv P g (first++(args++cap)) h (RetP fun v' h'=>v'=v/\Ext h h'))
  (hk:∀h1,Ext h h1->Wo P fr ops l (upd m d v) ds h1 Q):Wo P fr ops (o::l) m ds h Q:=by
 refine ZAa hg hop hcal hf ha hb hd hlt hv ?_;rintro _ h1 ⟨rfl,he⟩;exact hk h1 he
end
section
variable {fr:Fr}{ops:Array Oper}{o:Oper}{m:Mem}{ds:List ADef}{h:Heap}{K Kp:Value->List ADef->Heap->Prop}
theorem ZBf {c:Call}{f:Operand}{g:FuncId}{first cap args:List Value}{v:Value}(hg:gk ops.toList m o.guard=some true)(hop:o.op=.call c)(hcal:c.callee=.value f)(hf:opk h m f=some (.func (.func g) ⟨first⟩ ⟨cap⟩))(ha:opkl h m c.args.toList=some args)
  (hb:ZAp P g=true) (hv:Sv P g (first++(args++cap)) h (RetP fun v' h'=>v'=v/\Ext h h')) (hk:∀h1,Ext h h1->K v ds h1):W1 P fr ops o m ds h K Kp:=by
 refine ZEO hg hop hcal hf ha hb hv ?_ (fun _ _ hR=>hR.elim);rintro _ h1 ⟨rfl,e⟩;exact hk h1 e
theorem ZAX {c:Call}{f:Operand}{g:FuncId}{first cap args:List Value}{v:Value}(hg:gk ops.toList m o.guard=some true)(hop:o.op=.call c)(hcal:c.callee=.value f)(hf:opk h m f=some (.func (.func g) ⟨first⟩ ⟨cap⟩))(ha:opkl h m c.args.toList=some args)
  (hb:ZAp P g=true) (hv:Sv P g (first++(args++cap)) h (RetP fun v' h'=>v'=v/\h'=h)) (hk:K v ds h):W1 P fr ops o m ds h K Kp:=by
 refine ZEO hg hop hcal hf ha hb hv ?_ (fun _ _ hR=>hR.elim);rintro _ h1 ⟨rfl,e⟩;subst e;exact hk
theorem ZBJ {c:Call}{f:Operand}{g:FuncId}{first cap args:List Value}{R:Value->Heap->Prop}(hg:gk ops.toList m o.guard=some true)(hop:o.op=.call c)(hcal:c.callee=.value f)(hf:opk h m f=some (.func (.func g) ⟨first⟩ ⟨cap⟩))(ha:opkl h m c.args.toList=some args)
  (hb:ZAp P g=true) (hv:Sv P g (first++(args++cap)) h (RetP R)) (hk:∀v h1,R v h1->K v ds h1):W1 P fr ops o m ds h K Kp :=
 ZEO hg hop hcal hf ha hb hv hk (fun _ _ hR=>hR.elim)
end
section
variable {m:Mem}{h:Heap}{d:Option Tmp}{ty:TypeId}{pos:String}{af:Array Edge}{gu:Option (Nat×Bool)}
theorem A_ld {t:TypeId}{x:Operand}{b o:Nat}{v:Value}(ht:One P t)(hx:opk h m x=some (.pointer (some ⟨b,o,none⟩)))(hc:ZAS h b o=some v:=by first|assumption|exact ZAb (by assumption) rfl|exact Ext.cell (by assumption) (by assumption)):Aop P ⟨d,.load t x,ty,pos,af,gu⟩ m h v h:=ZVR ht hx hc
theorem ZPV {t:TypeId}{x:Operand}{b o n:Nat}{vs:List Value}(ht:Row P t n)(hx:opk h m x=some (.pointer (some ⟨b,o,none⟩)))(hc:ZAw h b o n=some vs:=by first|assumption|exact ZAP (by assumption) rfl|exact Ext.row (by assumption) (by assumption)):Aop P ⟨d,.load t x,ty,pos,af,gu⟩ m h (.agg ⟨vs⟩) h:=ZT3 ht hx hc
theorem A_ad {t tz:TypeId}{x y:Operand}{a b:Int}(hx:opk h m x=some (.int .i64 a))(hy:opk h m y=some (.int .i64 b))(h1:-9223372036854775808<=a+b:=by omega) (h2:a+b<9223372036854775808:=by omega):Aop P ⟨d,.binOp .add t x y tz,ty,pos,af,gu⟩ m h (.int .i64 (a+b)) h:=ZVT hx hy h1 h2
theorem A_sb {t tz:TypeId}{x y:Operand}{a b:Int}(hx:opk h m x=some (.int .i64 a))(hy:opk h m y=some (.int .i64 b))(h1:-9223372036854775808<=a-b:=by omega) (h2:a-b<9223372036854775808:=by omega):Aop P ⟨d,.binOp .sub t x y tz,ty,pos,af,gu⟩ m h (.int .i64 (a-b)) h:=ZJs hx hy h1 h2
theorem A_ix {t el:TypeId}{x i:Operand}{b o n len cap k:Nat}{oa:Option Nat}{ki:IntKind}(ht:P.underlying t=some (.slice el))(hz:tsz P el=some n)(hx:opk h m x=some (.slice (some ⟨b,o,oa⟩) len cap))(hi:opk h m i=some (.int ki (k:Int)))(hlt:k<len:=by first|assumption|omega) :
  Aop P ⟨d,.indexAddr t x i,ty,pos,af,gu⟩ m h (.pointer (some ⟨b,o+k*n,none⟩)) h:=ZAE ht hz hx hi rfl hlt
end
theorem Sv.grows {g:FuncId}{args:List Value}{h:Heap}{v:Value}(hs:Sv P g args h (RetP fun v' h'=>v'=v/\h'=h)):Sv P g args h (RetP fun v' h'=>v'=v/\Ext h h') :=
 hs.ret fun _ _ ⟨h1,h2⟩=>⟨h1,by subst h2;exact Ext.refl _⟩
def ZAi {α:Type}(enc:α->Value)(h:Heap)(a:Option Addr)(l:List α):Prop:=∀i (hi:i<l.length),∃b o oa,a=some ⟨b,o,oa⟩/\ZAS h b (o+i*1)=some (enc l[i])
theorem ZAi.ext {α:Type}{enc:α->Value}{h h':Heap}{a:Option Addr}{l:List α}(hl:ZAi enc h a l)(he:Ext h h'):ZAi enc h' a l:=fun i hi=>by
 obtain⟨b,o,oa,h1,h2⟩:=hl i hi;exact⟨b,o,oa,h1,he.cell h2⟩
abbrev ZPC:=ZAi i64
abbrev ZLb:=ZAi str
def ZBO {α:Type}(k:Nat)(R:Heap->List Value->α->Prop)(h:Heap)(a:Option Addr)(l:List α):Prop:=∀i (hi:i<l.length),∃b o oa,a=some ⟨b,o,oa⟩/\∃row,ZAw h b (o+i*k) k=some row/\R h row l[i]
theorem ZBO.ext {α:Type}{k:Nat}{R:Heap->List Value->α->Prop}(hR:∀{h h' row x},R h row x->Ext h h'->R h' row x){h h':Heap}{a:Option Addr}{l:List α}(hl:ZBO k R h a l)(he:Ext h h'):ZBO k R h' a l:=fun i hi=>by
 obtain⟨b,o,oa,h1,row,h2,h3⟩:=hl i hi;exact⟨b,o,oa,h1,row,he.row h2,hR h3 he⟩
theorem ZFT.list {α:Type}{enc:α->Value}{h0 h:Heap}{v:Value}{el:TypeId}{l:List α}{n:Nat}(ho:ZFT h0 h v el 1 (l.map enc) n):∃a,v=.slice a l.length l.length/\n=l.length/\ZAi enc h a l:=by
 obtain⟨a,h1,h2,h3⟩:=ho.is;have hn:n=l.length:=by simp at h2;exact h2.symm
 subst hn;refine⟨a,h1,rfl,fun i hi=>?_⟩;obtain⟨b,o,oa,h4,h5⟩:=h3 i (by simpa using hi);refine⟨b,o,oa,h4,?_⟩;rw[Nat.mul_one,h5];simp[hi]
variable {P:Program}
abbrev I64 (n:Int):Prop:=-9223372036854775808<=n/\n<9223372036854775808
abbrev Len {α:Type}(l:List α):Prop:=l.length<9223372036854775808
section
variable {fr:Fr}{ops:Array Oper}{o:Oper}{m:Mem}{ds:List ADef}{h:Heap}{K Kp:Value->List ADef->Heap->Prop}
theorem ZTR {v:Value}{h1:Heap}(hg:gk ops.toList m o.guard=some true)(hnd:∀c',o.op≠.defer c')(hA:Aop P o m h v h1)(hk:K v ds h1):W1 P fr ops o m ds h K Kp:=by
 refine⟨?_⟩;intro k ho e hs ι w a F hr hfr hF Kx Qx T;unfold wpOpIn;simp only[ho];rw[ZBI hfr (ZEC hs hg)];simp only[if_true];obtain⟨ι',v',w',hrun,hv,hr',ha⟩:=hA e hs ι w a hr hfr.env;refine⟨fun f _=>hF.fn f,?_⟩;rw[Oper.semAt_eq _ _ _ hnd]
 rcases hrun with hrun|⟨hrun,rfl⟩
 ·rw[hrun,Oper.uponIn_value]
  exact T.normal v ds h1 hk ι' v' _ w' rfl hv ha hr' (by rw[ZBX];exact hfr.df.mono ha.sub)
 ·rw[hrun,Oper.uponIn_skip]
  exact T.normal v ds h1 hk ι' _ _ w' rfl hv ha hr' (by rw[ZBX];exact hfr.df.mono ha.sub)
end
section
variable {m:Mem}{h:Heap}{d:Option Tmp}{ty:TypeId}{pos:String}{af:Array Edge}{gu:Option (Nat×Bool)}
theorem ZTa {f : FuncId} {fn : Func} {e : Array Value -> Sem Value} {x y : Operand} {ts : Array TypeId} {a b v : Value} (hf : P.funcs[f]? = some fn) (hname : (fn.name == "runtime.NumGoroutine") = false) (hb : fn.body.isNone = true) (hn : Extern.findNext fn = none) (he : Extern.find fn = some e)
  (hx:opk h m x=some a) (hy:opk h m y=some b) (fa:flat a=true) (fb:flat b=true) (fv:flat v=true) (hrun:∀w,(e #[a,b]).run P w=.ok v w):Aop P ⟨d,.call ⟨.value (.func f),#[x,y],ts⟩,ty,pos,af,gu⟩ m h v h :=
 by
  intro en hs ι w ac hr hen;have h1:=(ZAH hr hen (ZAM hs hx)).flat_eq fa;have h2:=(ZAH hr hen (ZAM hs hy)).flat_eq fb;refine OpS.here hr ?_ (VR.of_flat ι fv);have:=run_callFunc_extern hf hname hb hn he #[a,b] w;rw[hrun] at this;have h3:ac.eval (.func f)=.func (.func f) #[] #[]:=rfl;simp only[execOp,resolve,Deferred.ofValue,h3,Sem.run_bind,Sem.run_pure,Result.andThen_ok,invoke];simp only[List.map_toArray,List.map_cons,List.map_nil,h1,h2]
  simpa using this
theorem ZIz {t el:TypeId}{x i:Operand}{b o n len k:Nat}{ki:IntKind}{z:Int}(ht:P.underlying t=some (.array len el))(hz:tsz P el=some n)(hx:opk h m x=some (.pointer (some ⟨b,o,none⟩)))(hi:opk h m i=some (.int ki z))(hk:z=(k:Int))(hlt:k<len) :
  Aop P ⟨d,.indexAddr t x i,ty,pos,af,gu⟩ m h (.pointer (some ⟨b,o+k*n,none⟩)) h :=
 ZAe fun e hs=>by
  subst hk
  show ZB2 P h e t x i=_
  unfold ZB2;rw[ZAM hs hx,ZAM hs hi];have hb:Nat.blt k len=true:=by rw[Nat.blt_eq];exact hlt
  show (match ZCJ P t (.pointer (some ⟨b,o,none⟩)) (.int ki (Int.ofNat k)) with|some v=>AR.ok v h|none=>.no)=_
  simp only[ZCJ,ZEA,ht,hb,hz]
  rfl
theorem ZDZ {x:Operand}{a:Addr}(hx:opk h m x=some (.pointer (some a))):Aop P ⟨d,.nilCheck x,ty,pos,af,gu⟩ m h (.pointer (some a)) h :=
 ZAe fun e hs=>by
  show pNil h e x=_
  unfold pNil;rw[ZAM hs hx]
theorem ZHt:∀(l vs:List Value),l.length<=vs.length->lay0 l vs=some (l++vs.drop l.length)
 | [],vs,_=>rfl
 | x::l,[],h=>by simp at h
 | x::l,v::vs,h=>by
  have:=ZHt l vs (by simpa using h)
  show @Option.rec (List Value) (fun _=>Option (List Value)) none (fun r=>some (x::r)) (lay0 l vs)=_
  rw[this];rfl
theorem ZCg {l:List Value}:∀{vs:List Value}{o:Nat},o+l.length<=vs.length->lay vs o l=some (vs.take o++(l++vs.drop (o+l.length)))
 | [],o,h=>by
  have:o=0:=by simp at h;omega
  subst this
  show lay0 l []=_
  rw[ZHt l [] (by simpa using h)];simp
 | v::vs,0,h=>by
  show lay0 l (v::vs)=_
  rw[ZHt l (v::vs) (by simpa using h)];simp
 | v::vs,o+1,h=>by
  have:=ZCg (l:=l) (vs:=vs) (o:=o) (by simp at h;omega)
  show @Option.rec (List Value) (fun _=>Option (List Value)) none (fun r=>some (v::r)) (lay vs o l)=_
  rw[this,show o+1+l.length=(o+l.length)+1 by omega];simp
theorem ZCH {vs:List Value}{o:Nat}{x:Value}(h:o<vs.length):lay vs o [x]=some (vs.set o x):=by
 rw[ZCg (by simp;omega)]
 congr 1
 rw[List.set_eq_take_append_cons_drop,if_pos h];simp
theorem ZHa {t el:TypeId}{x j:Operand}{b o len cap n k:Nat}{kj:IntKind}{z:Int}(ht:P.underlying t=some (.slice el))(hz:tsz P el=some n)(hx:opk h m x=some (.slice (some ⟨b,o,none⟩) len cap))(hj:opk h m j=some (.int kj z))(hk:z=(k:Int))(hle:k<=cap) :
  Aop P ⟨d,.slice t x none (some j) none,ty,pos,af,gu⟩ m h (.slice (some ⟨b,o,none⟩) k cap) h :=
 ZAe fun e hs=>by
  subst hk
  show ZDB P _ h e t x none (some j) none=_
  unfold ZDB;simp only[ZAM hs hx,opvo,ZAM hs hj];have:ZCY P t (.slice (some ⟨b,o,none⟩) len cap) none (some (.int kj (k:Int))) none=some (.slice (some ⟨b,o,none⟩) k cap):=by
   have hb:Nat.ble k cap=true:=Nat.ble_eq_true_of_le hle;have hb0:Nat.ble 0 k=true:=Nat.ble_eq_true_of_le (Nat.zero_le _);have hb1:Nat.ble cap cap=true:=Nat.ble_eq_true_of_le (Nat.le_refl _);unfold ZCY;rw[ht];simp only
   show (match sb len cap none (some (.int kj (Int.ofNat k))) none,tsz P el with|some (l,h,m),some n=>some (Value.slice (some ⟨b,@Bool.casesOn (fun _=>Nat) (Nat.beq m l) (Nat.add o (Nat.mul l n)) o,none⟩) (Nat.sub h l) (Nat.sub m l))|_,_=>none)=_
   rw[hz];have c1:bnd none cap cap=some cap:=by simp only[bnd,hb1]
   have c2:bnd (some (.int kj (Int.ofNat k))) len cap=some k:=by simp only[bnd,ZEA,hb]
   have c3:bnd none 0 k=some 0:=by simp only[bnd,hb0]
   simp only[sb,c1,c2,c3];cases hq:Nat.beq cap 0 <;> simp
  simp only[this]
theorem ZHm {t el:TypeId}{x y:Operand}{k sz by':Nat}{z:Value}{kx ky:IntKind}{n:Int}(ht:P.underlying t=some (.slice el))(hE:Elm P el sz by')(hZ:ZA9 P el=some z)(hx:opk h m x=some (.int kx n))(hy:opk h m y=some (.int ky n))(hk:n=(k:Int))(hb:by'*k<=281474976710656)(hb2:k<281474976710656) :
  Aop P ⟨d,.makeSlice t x y,ty,pos,af,gu⟩ m h (.slice (some ⟨h.nx,0,none⟩) k k) (h.add (.cells (rep k z.cells.toList) el false)) :=
 ZAe fun e hs=>by
  subst hk;obtain⟨i,z',i1,i2,i3,i4,i5,i6⟩:=hE.h;rw[hZ] at i4;cases i4
  show ZO8 P h e t x y=_
  unfold ZO8;simp only[ZAM hs hx,ZAM hs hy];have e1:Nat.ble k k=true:=Nat.ble_eq_true_of_le (Nat.le_refl _);have e2:Nat.ble (Nat.mul i.bytes k) 281474976710656=true:=Nat.ble_eq_true_of_le (by rw[i3];exact hb);have e3:Nat.blt k 281474976710656=true:=by rw[Nat.blt_eq];exact hb2
  have e4:Nat.beq z.cells.toList.length i.size=true:=by rw[i2];exact i5
  have e5:Nat.blt 0 i.size=true:=by rw[i2];exact i6
  show ZDO P t (.int kx (Int.ofNat k)) (.int ky (Int.ofNat k)) h=_
  simp only[ZDO,ZHg,ht,ZEA,i1,hZ,e1,e2,e3,e4,e5]
  rfl
theorem ZVq {x y:Operand}{ts:Array TypeId}{a b:Int}(hx:opk h m x=some (i64 a))(hy:opk h m y=some (i64 b)):Aop P ⟨d,.call ⟨.builtin .min,#[x,y],ts⟩,ty,pos,af,gu⟩ m h (i64 (min a b)) h :=
 ZGZ hx hy rfl rfl rfl fun ev w h1 h2=>by
  simp only[execOp,resolve,Sem.run_bind,Sem.run_pure,Result.andThen_ok,invoke,builtin];simp only[List.map_toArray,List.map_cons,List.map_nil,h1,h2,Lib.run_min_ints,Sem.run_bind,Result.andThen_ok,Sem.run_pure]
theorem ZUu {x y:Operand}{ts:Array TypeId}{a b:Int}(hx:opk h m x=some (i64 a))(hy:opk h m y=some (i64 b)):Aop P ⟨d,.call ⟨.builtin .max,#[x,y],ts⟩,ty,pos,af,gu⟩ m h (i64 (max a b)) h :=
 ZGZ hx hy rfl rfl rfl fun ev w h1 h2=>by
  simp only[execOp,resolve,Sem.run_bind,Sem.run_pure,Result.andThen_ok,invoke,builtin];simp only[List.map_toArray,List.map_cons,List.map_nil,h1,h2,Lib.run_max_ints,Sem.run_bind,Result.andThen_ok,Sem.run_pure]
noncomputable def opks (h:Heap)(m:Mem):List (Nat×Operand)->Option (List (Nat×Value))
 | []=>some []
 | p::l=>match opk h m p.2,opks h m l with
  | some v,some r=>some ((p.1,v)::r)
  | _,_=>none
theorem ZEM {e:Env}(hs:Sat m e):∀{l:List (Nat×Operand)}{r:List (Nat×Value)},opks h m l=some r->opvs h e l=some r
 | [],r,hr=>hr
 | p::l,r,hr=>by
  unfold opks at hr
  show (match opv h e p.2,opvs h e l with|some v,some r=>some ((p.1,v)::r)|_,_=>none)=some r
  cases h1:opk h m p.2 with
  | none=>rw[h1] at hr;cases hr
  | some v =>
   rw[h1] at hr
   cases h2:opks h m l with
   | none=>rw[h2] at hr;cases hr
   | some vs =>
    rw[h2] at hr;rw[ZAM hs h1,ZEM hs h2];exact hr
theorem ZIf {t el:TypeId}{sz len:Nat}{z:Value}{parts:List (Nat×Value)}{cs:List Value}(hU:P.underlying t=some (.slice el))(hT:tsz P el=some sz)(hZ:ZA9 P el=some z)(hz:Nat.beq z.cells.toList.length sz=true)(h0:Nat.blt 0 sz=true)(hb:Nat.ble (Nat.mul len sz) 16777216=true)
  (hf:Instr.fill (fun i=>some (i*sz,sz)) (rep len z.cells.toList).toArray parts=some ⟨cs⟩):ZF3 P t len parts=some (cs,el):=by
 unfold ZF3;simp only[hU,hT,hZ,hz,h0,hb,hf]
theorem A_bs {t el:TypeId}{sz len:Nat}{z:Value}{ps:Array (Nat×Operand)}{parts:List (Nat×Value)}{cs:List Value}(hU:P.underlying t=some (.slice el))(hT:tsz P el=some sz)(hZ:ZA9 P el=some z)(hz:Nat.beq z.cells.toList.length sz=true)(h0:Nat.blt 0 sz=true)(hb:Nat.ble (Nat.mul len sz) 16777216=true)
  (hp:opks h m ps.toList=some parts) (hf:Instr.fill (fun i=>some (i*sz,sz)) (rep len z.cells.toList).toArray parts=some ⟨cs⟩):Aop P ⟨d,.buildSlice t len ps,ty,pos,af,gu⟩ m h (.slice (some ⟨h.nx,0,none⟩) len len) (h.add (.cells cs el false)) :=
 ZAe fun e hs=>by
  show ZCk P h e t len ps=_
  unfold ZCk;rw[ZEM hs hp]
  show ZC1 P t len parts h=_
  unfold ZC1;rw[ZIf hU hT hZ hz h0 hb hf]
  rfl
end
section
variable {fr:Fr}{m:Mem}{ds:List ADef}{h:Heap}{Q:CQ}{ops:Array Oper}{l:List Oper}{d:Nat}{ty:TypeId}{pos:String}{af:Array Edge}{gu:Option (Nat×Bool)}
theorem ZBg {t el:TypeId}{sz len:Nat}{z:Value}{ps:Array (Nat×Operand)}{parts:List (Nat×Value)}{cs:List Value}(hg:gk ops.toList m gu=some true)(hlt:Nat.blt d fr.nt=true)(hU:P.underlying t=some (.slice el))(hT:tsz P el=some sz)(hZ:ZA9 P el=some z)(hz:Nat.beq z.cells.toList.length sz=true)(h0:Nat.blt 0 sz=true)(hb:Nat.ble (Nat.mul len sz) 16777216=true)
  (hp:opks h m ps.toList=some parts) (hf:Instr.fill (fun i=>some (i*sz,sz)) (rep len z.cells.toList).toArray parts=some ⟨cs⟩)
  (hk:∀h1,Ext h h1->WF h1->h1.get h.nx=some (.cells cs el false)->h1.nx=h.nx+1->Wo P fr ops l (upd m d (.slice (some ⟨h.nx,0,none⟩) len len)) ds h1 Q):Wo P fr ops (⟨some d,.buildSlice t len ps,ty,pos,af,gu⟩::l) m ds h Q :=
 ZBC fun hw=>ZAV hg rfl rfl hlt (A_bs hU hT hZ hz h0 hb hp hf) (hk _ (Ext.add hw _) (hw.add _) Heap.get_add_same rfl)
end
variable {P:Program}
theorem ZVl {m:Mem}{h:Heap}{d:Option Tmp}{ty:TypeId}{pos:String}{af:Array Edge}{gu:Option (Nat×Bool)}{t:TypeId}{x:Operand}{v:Value}(hx:opk h m x=some v)(hp:∀e,opv h e x=some v->ZI0 P h e t x=.ok (.iface t v) h):Aop P ⟨d,.makeInterface t x,ty,pos,af,gu⟩ m h (.iface t v) h :=
 ZAe fun e hs=>hp e (ZAM hs hx)
section
variable {fr:Fr}{ops:Array Oper}{l:List Oper}{m:Mem}{ds:List ADef}{h:Heap}{Q:CQ}{d:Option Tmp}{ty:TypeId}{pos:String}{af:Array Edge}{gu:Option (Nat×Bool)}
theorem ZRu {x:Operand}{t:TypeId}{v:Value}(hg:gk ops.toList m gu=some true)(hx:opk h m x=some (.iface t v))(hQ:Q (.pan (.iface t v)) m ds h):Wo P fr ops (⟨d,.panic x,ty,pos,af,gu⟩::l) m ds h Q:=by
 refine⟨?_⟩;intro k hdr e hs ι0 h0 w0 ι w a F hr hfr hF ad0;have ho:ops[k]?=some ⟨d,.panic x,ty,pos,af,gu⟩:=by
  have:ops.toList[k]?=some ⟨d,.panic x,ty,pos,af,gu⟩:=by
   have h1:(ops.toList.drop k)[0]?=some ⟨d,.panic x,ty,pos,af,gu⟩:=by rw[hdr];rfl
   rw[List.getElem?_drop] at h1;simpa using h1
  simpa using this
 rw[List.length_cons,List.range'_succ,wpOpsIn_cons];have hev:evOp P VT evNo fr ops.toList ⟨d,.panic x,ty,pos,af,gu⟩ e ds h=.ok (.pan (.iface t v)) e ds h:=by
  rw[evOp,ZEC hs hg];simp only[evDo,ZKN,ZAM hs hx]
 refine ZI1 (ZGM P) ho hev hr hfr hF ⟨(fun hn=>by cases hn),fun v1 hv1 ι' v' w' ha hr' hf hvv=>?_⟩;cases hv1;exact⟨_,e,ds,h,m,hs,hQ,ι',ad0.trans ha,hr',hf,.pan hvv⟩
theorem ZS1 {c:Call}{f:Operand}{g:FuncId}{first cap args:List Value}(hg:gk ops.toList m gu=some true)(hrd:fr.rd=none)(hcal:c.callee=.value f)(hf:opk h m f=some (.func (.func g) ⟨first⟩ ⟨cap⟩))(ha:opkl h m c.args.toList=some args)(hb:ZAp P g=true)
  (hk:Wo P fr ops l m (.fn g (first++args) cap::ds) h Q):Wo P fr ops (⟨none,.defer c,ty,pos,af,gu⟩::l) m ds h Q :=
 ZUN (ZGM P) (fun e hs=>⟨e,by
  rw[evOp,ZEC hs hg];simp only[evDo,ZJv,hrd,hcal,ZAM hs hf,ZCu hs ha,hb,fin,put],hs⟩) hk
end
abbrev ZQ:=ZDK->Mem->RC->Heap->Prop
def PQS (fr:Fr) (ι:Iota)(h:Heap)(w:World)(c0:Frame)(cs0:List Frame)(Q:ZQ):Exit->Act->List Frame->World->Prop:=fun ex a' cs' w' =>
 ∃x e' rc' h' m',Sat m' e'/\Q x m' rc' h'/\ZPi VT fr ι h w c0 cs0 x e' rc' h' ex a' cs' w'
structure Wz (P:Program)(fr:Fr)(c:Code)(m:Mem)(rc:RC)(h:Heap)(Q:ZQ):Prop where
 w:∀e:Env,Sat m e->∀(ι0:Iota) (h0:Heap) (w0:World) (c0:Frame) (cs0:List Frame) (ι:Iota) (w:World) (a:Act) (u:FrameMode),HR ι h w.heap->FR VT fr ι e [] a->RCR ι rc u->Adv ι0 h0 w0 ι h w->c.wpS P (PQS fr ι0 h0 w0 c0 cs0 Q) a ({ c0 with mode:=u }::cs0) w
structure Wzo (P:Program)(fr:Fr)(ops:Array Oper)(l:List Oper)(m:Mem)(rc:RC)(h:Heap)(Q:ZQ):Prop where
 w:∀k,ops.toList.drop k=l->∀e:Env,Sat m e->∀(ι0:Iota) (h0:Heap) (w0:World) (c0:Frame) (cs0:List Frame) (ι:Iota) (w:World) (a:Act) (u:FrameMode),HR ι h w.heap->FR VT fr ι e [] a->RCR ι rc u->Adv ι0 h0 w0 ι h w →
  wpOpsS P ops (PQS fr ι0 h0 w0 c0 cs0 Q) (List.range' k l.length) a ({ c0 with mode:=u }::cs0) w
section
variable {fr:Fr}{m:Mem}{rc:RC}{h:Heap}{Q:ZQ}
theorem ZNi {a b:Code}(hw:Wz P fr a m rc h (fun x m rc h=>match x with|.normal=>Wz P fr b m rc h Q|x=>Q x m rc h)):Wz P fr (.seq a b) m rc h Q:=by
 refine⟨fun e hs ι0 h0 w0 c0 cs0 ι w ac u hr hf hc ha=>wpS_seq ?_⟩;intro fb k hb hro;obtain⟨ex,a1,cs1,w1,⟨x,e1,rc1,h1,m1,s1,q1,ι1,u1,rfl,hc1,ad1,hr1,hf1,hx1⟩,harr⟩:=hw.w e hs ι0 h0 w0 c0 cs0 ι w ac u hr hf hc ha fb k hb hro;refine⟨ex,a1,_,w1,?_,harr⟩
 cases hx1 with
 | normal=>exact q1.w e1 s1 ι0 h0 w0 c0 cs0 ι1 w1 a1 u1 hr1 hf1 hc1 ad1
 | exit id=>exact⟨.exit id,e1,rc1,h1,m1,s1,q1,ι1,u1,rfl,hc1,ad1,hr1,hf1,.exit id⟩
 | goto l=>exact⟨.goto l,e1,rc1,h1,m1,s1,q1,ι1,u1,rfl,hc1,ad1,hr1,hf1,.goto l⟩
 | ret=>exact⟨.ret,e1,rc1,h1,m1,s1,q1,ι1,u1,rfl,hc1,ad1,hr1,hf1,.ret⟩
 | pan hv=>exact⟨.pan _,e1,rc1,h1,m1,s1,q1,ι1,u1,rfl,hc1,ad1,hr1,hf1,.pan hv⟩
theorem ZSv {c:Operand}{x y:Code}(hc:opk h m c=some (.bool true))(ht:Wz P fr x m rc h Q):Wz P fr (.cond c x y) m rc h Q :=
 ⟨fun e hs ι0 h0 w0 c0 cs0 ι w a u hr hf hcc ha=>wpS_cond (t:=true) ((ZAH hr hf.env (ZAM hs hc)).flat_eq rfl) (ht.w e hs ι0 h0 w0 c0 cs0 ι w a u hr hf hcc ha)⟩
theorem ZSq {c:Operand}{x y:Code}(hc:opk h m c=some (.bool false))(hn:Wz P fr y m rc h Q):Wz P fr (.cond c x y) m rc h Q :=
 ⟨fun e hs ι0 h0 w0 c0 cs0 ι w a u hr hf hcc ha=>wpS_cond (t:=false) ((ZAH hr hf.env (ZAM hs hc)).flat_eq rfl) (hn.w e hs ι0 h0 w0 c0 cs0 ι w a u hr hf hcc ha)⟩
theorem ZPa {c:Code}(hrd:fr.rd=none)(hw:Wc P fr c m [] h (fun x m' ds' h'=>ds'=[]/\Q x m' rc h')):Wz P fr c m rc h Q:=by
 refine⟨fun e hs ι0 h0 w0 c0 cs0 ι w a u hr hf hc ha=>?_⟩;have hF:FenR ι fr.rd Fence.wide:=by rw[hrd];rfl
 refine wpS_of_wp (wpIn_wide.1 (wpIn_mono (hw.w e hs ι w a Fence.wide hr hf hF) ?_));rintro ex a1 w1 ⟨x,e1,ds1,h1,m1,s1,⟨rfl,q1⟩,ι1,ad,hr1,hf1,hx⟩;exact⟨x,e1,rc,h1,m1,s1,q1,ι1,u,rfl,hc.mono ad.sub,ha.trans ad,hr1,hf1,hx⟩
theorem ZFk {i:Nat}{ops:Array Oper}(hw:Wzo P fr ops ops.toList m rc h Q):Wz P fr (.region i ops false) m rc h Q:=by
 refine⟨fun e hs ι0 h0 w0 c0 cs0 ι w a u hr hf hc ha=>wpS_region ?_⟩;have:=hw.w 0 rfl e hs ι0 h0 w0 c0 cs0 ι w a u hr hf hc ha;rw[List.range_eq_range']
 simpa using this
theorem ZJ0 {ops:Array Oper}(hQ:Q .normal m rc h):Wzo P fr ops [] m rc h Q :=
 ⟨fun _ _ e hs _ _ _ _ _ ι _ _ u hr hf hc ha=>⟨.normal,e,rc,h,m,hs,hQ,ι,u,rfl,hc,ha,hr,hf,.normal⟩⟩
theorem ZG4 {ops:Array Oper}{o:Oper}{l:List Oper}{k:Nat}(hd:ops.toList.drop k=o::l):ops[k]?=some o/\ops.toList.drop (k+1)=l:=by
 constructor
 ·have:ops.toList[k]?=some o:=by
   have h1:(ops.toList.drop k)[0]?=some o:=by rw[hd];rfl
   rw[List.getElem?_drop] at h1;simpa using h1
  simpa using this
 ·have:(ops.toList.drop k).drop 1=l:=by rw[hd];rfl
  rw[List.drop_drop] at this;exact this
theorem ZI9 {ops:Array Oper}{o:Oper}{l:List Oper}{v:Value}{h1:Heap}(hg:gk ops.toList m o.guard=some true)(hd:ZEp fr o=true)(hA:Aop P o m h v h1)(hk:Wzo P fr ops l (updO m o v) rc h1 Q):Wzo P fr ops (o::l) m rc h Q:=by
 refine⟨fun k hdr e hs ι0 h0 w0 c0 cs0 ι w a u hr hf hc ha=>?_⟩;obtain⟨ho,hd'⟩:=ZG4 hdr;rw[List.length_cons,List.range'_succ];simp only[wpOpsS,ho];rw[ZBI hf (ZEC hs hg)];simp only[if_true];obtain⟨ι',v',w',hrun,hv,hr',ha'⟩:=hA e hs ι w a hr hf.env;obtain⟨e1,_,s1,f1⟩:=ZIg (a':=a.put o.dst v') (hf.mono ha'.sub) hs hd rfl hv (by rw[ZBX];exact hf.df.mono ha'.sub)
 rcases hrun with hrun|⟨hrun,rfl⟩
 ·rw[hrun]
  exact hk.w (k+1) hd' e1 s1 ι0 h0 w0 c0 cs0 ι' w' _ u hr' f1 (hc.mono ha'.sub) (ha.trans ha')
 ·rw[hrun]
  exact hk.w (k+1) hd' e1 s1 ι0 h0 w0 c0 cs0 ι' w' _ u hr' f1 (hc.mono ha'.sub) (ha.trans ha')
def recV:RC->Value
 | .some v=>v
 | _=>.nilIface
def recL:RC->RC
 | .some _=>.done
 | rc=>rc
theorem ZPg {ops:Array Oper}{o:Oper}{l:List Oper}{c:Call}(hg:gk ops.toList m o.guard=some true)(hop:o.op=.call c)(hcal:c.callee=.builtin .recover)(hd:ZEp fr o=true)(hk:Wzo P fr ops l (updO m o (recV rc)) (recL rc) h Q):Wzo P fr ops (o::l) m rc h Q:=by
 refine⟨fun k hdr e hs ι0 h0 w0 c0 cs0 ι w a u hr hf hc ha=>?_⟩;obtain⟨ho,hd'⟩:=ZG4 hdr;rw[List.length_cons,List.range'_succ];simp only[wpOpsS,ho];rw[ZBI hf (ZEC hs hg)];simp only[if_true];have hrun:(execOp a.eval o).run P w=.ok .recover w:=by
  unfold execOp;rw[hop];simp only[resolve,hcal,Sem.run_bind,Sem.run_pure,Result.andThen_ok,invoke,builtin]
 rw[hrun];simp only
 cases hc with
 | none =>
  simp only[recoverD];obtain⟨e1,_,s1,f1⟩:=ZIg (a':=a.put o.dst .nilIface) (v:=.nilIface) hf hs hd rfl .nilIface (by rw[ZBX];exact hf.df);exact hk.w (k+1) hd' e1 s1 ι0 h0 w0 c0 cs0 ι w _ _ hr f1 .none ha
 | some hv =>
  rename_i v v';simp only[recoverD];obtain⟨e1,_,s1,f1⟩:=ZIg (a':=a.put o.dst v') (v:=v) hf hs hd rfl hv (by rw[ZBX];exact hf.df);exact hk.w (k+1) hd' e1 s1 ι0 h0 w0 c0 cs0 ι w _ _ hr f1 (.done v') ha
 | done v' =>
  simp only[recoverD];obtain⟨e1,_,s1,f1⟩:=ZIg (a':=a.put o.dst .nilIface) (v:=.nilIface) hf hs hd rfl .nilIface (by rw[ZBX];exact hf.df);exact hk.w (k+1) hd' e1 s1 ι0 h0 w0 c0 cs0 ι w _ _ hr f1 (.done v') ha
end
structure LvR (P:Program)(fn:Func)(m:Mem)(ds:List ADef)(rc:RC)(h:Heap)(R:VS->Prop):Prop where
 w:∀(e:Env) (tmps:Array Value) (ι0:Iota) (h0:Heap) (w0:World) (ι:Iota) (w:World) (l:List Deferred) (u:FrameMode),Sat m e->rc≠.done->HR ι h w.heap->EnvR ι e tmps->DR ι ds l->RCR ι rc u->Adv ι0 h0 w0 ι h w →
  LeavesInM Fence.wide 0 P fn tmps (fun en w'=>∃r,R r/\ZFA ι0 h0 w0 r en w') l u w
section
variable {fn:Func}{m:Mem}{ds:List ADef}{rc:RC}{h:Heap}{R:VS->Prop}
theorem ZMn {vs:List Value}(hr:resk P h m fn.results.toList=some vs)(hR:R (.ret (ZHX vs) h)):LvR P fn m [] .none h R:=by
 refine⟨fun e tmps ι0 h0 w0 ι w l u hs _ hrr he hd hc ha=>?_⟩;cases hd;cases hc;obtain⟨v',h1,h2⟩:=ZCf (P:=P) (fn:=fn) hrr he (ZDc hs hr);exact⟨v',h1,_,hR,ι,v',rfl,h2,hrr,ha⟩
theorem ZUi {v:Value}(hR:R (.pan v h)):LvR P fn m [] (.some v) h R:=by
 refine⟨fun e tmps ι0 h0 w0 ι w l u hs _ hrr he hd hc ha=>?_⟩;cases hd
 cases hc with
 | some hv=>exact⟨_,hR,ι,_,rfl,hv,hrr,ha⟩
theorem ZVP {f:FuncId}{g:Func}{c:Code}{args cap:List Value}(hfn:P.funcs[f]?=some g)(hbody:g.body=some c)(hb:ZAp P f=true)(hle:Nat.ble (args++cap).length g.ntmps=true)
  (hw:Wz P ⟨f,g.ntmps,none⟩ c (argM 0 (args++cap) m0) rc h (fun x m' rc' h'=>(x=.normal\/x=.ret)/\(resk P h' m' g.results.toList).isSome=true/\LvR P fn m ds (rest rc') h' R)):LvR P fn m (.fn f args cap::ds) rc h R:=by
 refine⟨fun e tmps ι0 h0 w0 ι w l0 u hs hrc hrr he hd hc ha=>?_⟩;have hu:u≠.run:=by cases hc <;> simp
 cases hd with
 | fn _ hargs hcap hd =>
  rename_i args' cap' l;refine⟨hu,.inr ⟨(fun hd=>by cases hd),?_⟩⟩;refine⟨_,_,f,args'++cap',rfl,?_,fun _ _=>trivial,?_⟩
  ·simp only[invoke]
   exact ZC7 hb _ _
  have hva:VRL ι (args++cap) (args'++cap').toList:=by
   have:(args'++cap').toList=args'.toList++cap'.toList:=by simp
   rw[this];exact hargs.append hcap
  have hf0:=ZNu (V:=VT) (fr:=⟨f,g.ntmps,none⟩) hva (Nat.le_of_ble_eq_true hle);refine ZES hfn hbody fun c₀ cs hcu=>?_
  have hcc:c₀={ c₀ with mode:=u }:=by rw[<-hcu]
  have:=hw.w _ (ZHG _ (args++cap) 0 m0 ⟨[],[]⟩ ⟨rfl,fun _ _ h=>nomatch h⟩) ι h w c₀ cs ι w _ u hrr hf0 hc (.refl _ _ _);rw[<-hcc] at this;refine ZNn this ?_;rintro ex a1 cs1 w1 ⟨x,e1,rc1,h1,m1,s1,⟨hx,hres,hL⟩,ι1,u1,rfl,hc1,ad1,hr1,hf1,hx1⟩;have hdn:a1.defers=[]:=by have:=hf1.df;generalize a1.defers=q at this;cases this;rfl
  cases hq:resk P h1 m1 g.results.toList with
  | none=>rw[hq] at hres;cases hres
  | some vs =>
   obtain⟨v',q1,_⟩:=ZCf (P:=P) (fn:=g) hr1 hf1.env (ZDc s1 hq);have hsub:=ad1.sub;have hl:=hL.w e tmps ι0 h0 w0 ι1 w1 l (Go.settle u1) hs (ZQJ _) hr1 (he.mono hsub) (hd.mono hsub) hc1.settle (ha.trans ad1)
   rcases hx with rfl|rfl
   ·cases hx1;exact⟨hdn,u1,rfl,v',q1,hl⟩
   ·cases hx1;exact⟨hdn,u1,rfl,v',q1,hl⟩
end
def LvQ (P:Program)(fn:Func)(R:VS->Prop):CQ:=fun x m ds h =>
 match x with
 | .normal=>LvR P fn m ds .none h R
 | .ret=>LvR P fn m ds .none h R
 | .pan v=>LvR P fn m ds (.some v) h R
 | _=>False
theorem ZLF {g:FuncId}{fn:Func}{c:Code}{args:List Value}{h:Heap}{R:VS->Prop}(hfn:P.funcs[g]?=some fn)(hbody:fn.body=some c)(hb:Nat.ble args.length fn.ntmps=true)
  (hw:Wc P ⟨g,fn.ntmps,none⟩ c (argM 0 args m0) [] h (LvQ P fn R)):Sv P g args h R:=by
 refine⟨?_⟩;intro ι w args' hr hv;have hf0:=ZNu (V:=VT) (fr:=⟨g,fn.ntmps,none⟩) hv (Nat.le_of_ble_eq_true hb);refine callsIn_wide.1 (callsIn_of_wp_marks (F:=Fence.wide) (n:=0) hfn hbody trivial ?_);refine wpIn_mono (hw.w _ (ZHG _ args 0 m0 ⟨[],[]⟩ ⟨rfl,fun _ _ h=>nomatch h⟩) ι w _ Fence.wide hr hf0 rfl) ?_;rintro ex a1 w1 ⟨x,e1,ds1,h1,m1,s1,q1,ι1,ad,hr1,hf1,hx⟩
 cases hx with
 | normal=>exact q1.w e1 _ ι h w ι1 w1 _ _ s1 (by simp) hr1 hf1.env hf1.df .none ad
 | ret=>exact q1.w e1 _ ι h w ι1 w1 _ _ s1 (by simp) hr1 hf1.env hf1.df .none ad
 | pan hv=>exact q1.w e1 _ ι h w ι1 w1 _ _ s1 (by simp) hr1 hf1.env hf1.df (.some hv) ad
 | exit id=>exact q1.elim
 | goto l=>exact q1.elim
variable {P:Program}
structure Yd (P:Program)(l:Nat)(args:List Value)(h:Heap)(R:Value->Heap->Prop):Prop where
 w:∀(ι:Iota) (w:World) (bi:BI) (args':Array Value),HR ι h w.heap->ι l=some bi->VRL ι args args'.toList->∀(rd:Option Nat) (F:Fence),FenR ι rd F →
  ∃fn tmps assign body,(Instr.yield bi.blk args').run P w=.ok (.round bi.blk fn tmps assign body) w/\RoundIn F 0 P bi.blk fn tmps assign body w (fun en w'=>∃v h',R v h'/\ZFA ι h w (.ret v h') en w')
theorem Yd.mono {l:Nat}{args:List Value}{h:Heap}{R R':Value->Heap->Prop}(hy:Yd P l args h R)(hr:∀v h,R v h->R' v h):Yd P l args h R':=by
 refine⟨fun ι w bi args' h1 h2 h3 rd F hF=>?_⟩;obtain⟨fn,tmps,asg,bd,e1,e2⟩:=hy.w ι w bi args' h1 h2 h3 rd F hF;exact⟨fn,tmps,asg,bd,e1,e2.mono fun _ _ ⟨v,h',a,b⟩=>⟨v,h',hr _ _ a,b⟩⟩
def zipM:List Nat->List Value->Mem->Mem
 | p::ps,a::asq,m=>zipM ps asq (upd m p a)
 | _,_,m=>m
theorem ZNp {fr:Fr}:∀{ps:List Nat}{asq:List Value}{m:Mem}{e:Env},ps.length=asq.length->(ps.all fun p=>Nat.blt p fr.nt)=true->Sat m e->∃e',zipP VT fr ps asq e=some e'/\Sat (zipM ps asq m) e'
 | [],[],m,e,_,_,hs=>⟨e,rfl,hs⟩
 | [],_::_,_,_,h,_,_=>by simp at h
 | _::_,[],_,_,h,_,_=>by simp at h
 | p::ps,a::asq,m,e,hl,hp,hs=>by
  simp only[List.all_cons,Bool.and_eq_true] at hp;obtain⟨e',h1,h2⟩:=ZNp (fr:=fr) (ps:=ps) (asq:=asq) (m:=upd m p a) (e:=putE VT fr.fn p a e) (by simpa using hl) hp.2 (hs.put fr.fn p a);exact⟨e',by simp only[zipP,hp.1];exact h1,h2⟩
theorem ZNV {l:Nat}{args:List Value}{h:Heap}{R:Value->Heap->Prop}{pend:Option Code}{fn:FuncId}{nt:Nat}{e:Env}{ps:Array Tmp}{asq bd:Code}{df:Nat}{m:Mem}
  (hg:h.get l=some (.loop .ready pend fn nt e ps asq bd df)) (hs:Sat m e) (hlen:ps.toList.length=args.length) (hlt:(ps.toList.all fun p=>Nat.blt p nt)=true)
  (hw:Wc P ⟨fn,nt,some l⟩ asq (zipM ps.toList args m) [] h (fun x m1 ds1 h1=>x=.normal/\ds1=[]/\∃pend1 fn1 nt1 e1 ps1 as1 bd1 df1,h1.get l=some (.loop .ready pend1 fn1 nt1 e1 ps1 as1 bd1 df1) ∧
   Wc P ⟨fn,nt,some l⟩ bd m1 [] (h1.set l (.loop .busy pend1 fn1 nt1 e1 ps1 as1 bd1 df1)) (fun x2 _ _ h2=>∃j st2 pend2 fn2 nt2 e2 ps2 as2 bd2 df2,ZNQ x2=some j/\h2.get l=some (.loop st2 pend2 fn2 nt2 e2 ps2 as2 bd2 df2) ∧
    R (.bool j.isNone) (h2.set l (.loop (if j.isNone then .ready else .done) j fn2 nt2 e2 ps2 as2 bd2 df2))))):Yd P l args h R:=by
 refine⟨fun ι w bi args' hr hi hv rd F hF=>?_⟩;obtain⟨lc,hwl,l1,l2,l4,l5,l6,l7,l8,bi',l9,l10⟩:=hr.loopAt hg hi;have hf0:=FR.env_loop (V:=VT) (fr:=⟨fn,nt,some l⟩) l5 (hs.ei fn) l4;obtain⟨e0,hz,hs0⟩:=ZNp (fr:=⟨fn,nt,some l⟩) hlen hlt hs;obtain⟨hf1,hlen'⟩:=ZIl hf0 hv hz;refine⟨lc.fn,(ps.toList.zip args'.toList).foldl (fun t (p,v)=>t.setIfInBounds p v) lc.tmps,asq,bd,?_,?_⟩
 ·have hsz:¬args'.size≠ps.size:=by
   have:ps.toList.length=args'.toList.length:=hlen';simp at this;simp[this]
  simp only[Instr.yield,Sem.run_bind,ZBx hwl,Result.andThen_ok,l6,hsz,if_false,Sem.run_pure,l7,l8]
  congr 3
  rw[<-Array.foldl_toList,Array.toList_zip]
 have hF1:FenR ι (some l) (F.inRound bi.blk):=⟨bi,hi,hF.inRound _⟩;refine roundIn_of_wpIn (hF.fn _) (wpIn_mono (hw.w e0 hs0 ι w _ _ hr hf1 hF1) ?_);rintro ex a1 w1 ⟨x,e1',ds1,h1,m1,s1,⟨rfl,rfl,pend1,fn1,nt1,env1,ps1,as1,bd1,df1,hg1,hw1'⟩,ι1,ad1,hr1,fr1,x1⟩;cases x1;have hi1:=ad1.sub _ _ hi;obtain⟨lc1,hw1,m1',m2,m4,m5,m6,m7,m8,bi1',m9,m10⟩:=hr1.loopAt hg1 hi1
 have hset:=hr1.set (o2:=.loop .busy pend1 fn1 nt1 env1 ps1 as1 bd1 df1) (o2':=.loop { lc1 with state:=.busy }) hg1 hi1 (by
  simp only[OR];exact⟨trivial,m2,m4,m5,m6,m7,m8,bi1',m9,m10⟩)
 refine⟨{ w1 with heap:=w1.heap.setIfInBounds bi.blk (.loop { lc1 with state:=.busy }) },?_,?_⟩
 ·simp only[Instr.beginRound,Sem.run_bind,ZBx hw1,Result.andThen_ok,ZCs hw1,m1',Sem.run_pure]
 have hF2:FenR ι1 (some l) (F.inRound bi.blk):=hF1.mono ad1.sub
 refine wpIn_mono (hw1'.w e1' s1 ι1 { w1 with heap:=w1.heap.setIfInBounds bi.blk (.loop { lc1 with state:=.busy }) } _ _ hset.1 fr1 hF2) ?_
 rintro ex2 a2 w2 ⟨x2',e2',ds2,h2,m2',s2,⟨j,st2,pend2,fn2,nt2,env2,ps2,as2,bd2,df2,hj,hg2,hR⟩,ι2,ad2,hr2,fr2,x2⟩;have hi2:=ad2.sub _ _ hi1;obtain⟨lc2,hw2,n1,n2,n4,n5,n6,n7,n8,bi2',n9,n10⟩:=hr2.loopAt hg2 hi2
 have hset2:=hr2.set (o2:=.loop (if j.isNone then .ready else .done) j fn2 nt2 env2 ps2 as2 bd2 df2) (o2':=.loop { lc2 with state:=if j.isNone then .ready else .done,pending:=j }) hg2 hi2 (by
  simp only[OR];exact⟨trivial,trivial,n4,n5,n6,n7,n8,bi2',n9,n10⟩)
 refine ZHU x2 hj ⟨.bool j.isNone,{ w2 with heap:=w2.heap.setIfInBounds bi.blk (.loop { lc2 with state:=if j.isNone then .ready else .done,pending:=j }) },?_,?_⟩
 ·simp only[Instr.endRound,Sem.run_bind,ZBx hw2,Result.andThen_ok,ZCs hw2,Sem.run_pure]
 ·exact⟨_,_,hR,ι2,.bool j.isNone,rfl,.bool _,hset2.1,(ad1.trans hset.2).trans (ad2.trans hset2.2)⟩
section
variable {fr:Fr}{m:Mem}{ds:List ADef}{h:Heap}{Q:CQ}{ops:Array Oper}{lo:List Oper}{o:Oper}
theorem ZJy {c:Call}{f:Operand}{l:Nat}{args:List Value}{R:Value->Heap->Prop}{d:Nat}(hg:gk ops.toList m o.guard=some true)(hop:o.op=.call c)(hcal:c.callee=.value f)(hf:opk h m f=some (.func (.yield l) ⟨[]⟩ ⟨[]⟩))(ha:opkl h m c.args.toList=some args)
  (hd:o.dst=some d) (hlt:Nat.blt d fr.nt=true) (hv:Yd P l args h R) (hk:∀v h1,R v h1->Wo P fr ops lo (upd m d v) ds h1 Q):Wo P fr ops (o::lo) m ds h Q:=by
 refine⟨?_⟩;intro k hdr e hs ι0 h0 w0 ι w a F hr hfr hF ad0;obtain⟨ho,hd'⟩:=ZG4 hdr;rw[List.length_cons,List.range'_succ,wpOpsIn_cons];unfold wpOpIn;simp only[ho];rw[ZBI hfr (ZEC hs hg)];simp only[if_true];have hnd:∀c',o.op≠.defer c':=fun c' he=>by rw[hop] at he;cases he
 have hex:(execOp a.eval o).run P w=(do let d <-resolve a.eval c o.type;invoke d.target d.args:Sem Next).run P w:=by unfold execOp;rw[hop]
 have hcall:ZDX P h e c=.yield l args:=by
  unfold ZDX;rw[hcal];simp only[ZAM hs hf,ZCu hs ha]
 obtain⟨bi,args',hi,hva,hrun⟩:=ZEy (P:=P) hr hfr.env hcall o.type;obtain⟨fn,tmps,asg,bd,hy,hround⟩:=hv.w ι w bi args' hr hi hva _ _ hF;refine⟨fun f _=>hF.fn f,?_⟩;rw[Oper.semAt_eq _ _ _ hnd,hex,hrun,hy,Oper.uponIn_round];refine⟨(fun hd=>by rw[hF.depth] at hd;cases hd),hround.mono ?_⟩;rintro en w1 ⟨v,h1,hR,ι1,v',rfl,hvv,hr1,had⟩;have hfin:fin VT fr o v e ds h1=.ok .normal (putE VT fr.fn d v e) ds h1:=by simp only[fin,put,hd,hlt]
 refine ZCT (Q:=fun _ _ _=>True) hfin rfl had hr1 (hfr.mono had.sub) hvv ⟨fun _ ι2 _ a2 w2 _ ad hr2 hf2=>?_,fun v hv=>by cases hv⟩;exact (hk v h1 hR).w (k+1) hd' _ (hs.put fr.fn d v) ι0 h0 w0 ι2 w2 a2 F hr2 hf2 (hF.mono ad.sub) (ad0.trans ad)
def ZTS (P:Program)(fr:Fr)(m:Mem)(ds:List ADef)(r l:Nat)(Q:CQ)(h':Heap):Prop :=
 ∃st pend fn2 nt2 e2 ps2 as2 bd2 df2,h'.get l=some (.loop st pend fn2 nt2 e2 ps2 as2 bd2 df2)/\st≠.busy ∧
  (pend=none->Q .normal m (.coll r::ds) (h'.set l (.loop .exhausted pend fn2 nt2 e2 ps2 as2 bd2 df2))) ∧
  (∀c,pend=some c->Wc P fr c m (.coll r::ds) (h'.set l (.loop .exhausted pend fn2 nt2 e2 ps2 as2 bd2 df2)) Q)
theorem ZSd {f:Operand}{ps:Array Tmp}{asg bd:Code}{g:FuncId}{first cap:List Value}(hrd:fr.rd=none)(hf:opk h m f=some (.func (.func g) ⟨first⟩ ⟨cap⟩))(hb:ZAp P g=true)
  (hv:∀e,Sat m e->Sv P g (first++(.func (.yield (h.nx+1)) ⟨[]⟩ ⟨[]⟩::cap)) ((h.add .defd).add (.loop .ready none fr.fn fr.nt e ps asg bd h.nx)) (RetP fun _ h'=>ZTS P fr m ds h.nx (h.nx+1) Q h')) :
  Wc P fr (.rangeFunc f ps asg bd) m ds h Q:=by
 refine⟨?_⟩;intro e hs ι w a F hr hfr hF;refine wpIn_rangeFunc fun fn _=>?_
 rcases hF.roundEq with ⟨_,hro⟩|⟨l,bil,hrd',_,_⟩
 rotate_left
 ·rw[hrd] at hrd';cases hrd'
 let bir:BI:=⟨w.heap.size,0,0⟩
 have hsub:=hr.sub_upd bir;have hadd:=hr.add (o:=.defd) (o':=.deferred (some [])) (bi:=bir) rfl (by simp only[OR]);have hir:Dx.upd ι h.nx bir h.nx=some bir:=Dx.upd_same _ _ _
 have hf1:FR VT fr (Dx.upd ι h.nx bir) e (.coll h.nx::ds) { a with defers:=[{ target:=.collected w.heap.size,args:=#[] }]++a.defers } :=
  ⟨hfr.env.mono hsub,hfr.ei,hfr.sz,.coll hir (hfr.df.mono hsub)⟩
 have hF1:FenR (Dx.upd ι h.nx bir) fr.rd F:=hF.mono hsub
 have hopv:=ZAH (a:={ a with defers:=[{ target:=.collected w.heap.size,args:=#[] }]++a.defers }) hr hfr.env (ZAM hs hf)
 have hev0:({ a with defers:=[{ target:=.collected w.heap.size,args:=#[] }]++a.defers }:Act).eval f=a.eval f:=by cases f <;> rfl
 rw[hev0] at hopv;generalize hz:a.eval f=z at hopv
 cases hopv with
 | fn _ hfirst hcap =>
 rename_i first' cap'
 let w1:World:={ w with heap:=w.heap.push (.deferred (some [])) }
 let bi:BI:=⟨w1.heap.size,0,0⟩
 let lc:Loop:={ state:=.ready,pending:=none,fn,tmps:=a.tmps,params:=ps,assign:=asg,body:=bd,defers:=bir.blk }
 have hsub2:=hadd.1.sub_upd bi
 have hadd2:=hadd.1.add (w:=w1) (o:=.loop .ready none fr.fn fr.nt e ps asg bd h.nx) (o':=.loop lc) (bi:=bi) rfl (by
  simp only[OR];exact⟨rfl,rfl,hf1.sz,hf1.env.mono hsub2,rfl,rfl,rfl,bir,hsub2 _ _ hir,rfl⟩)
 have hnx:(h.add AO.defd).nx=h.nx+1:=rfl;rw[hnx] at hsub2 hadd2;have hi1:Dx.upd (Dx.upd ι h.nx bir) (h.nx+1) bi (h.nx+1)=some bi:=Dx.upd_same _ _ _
 let W:World:={ w1 with heap:=w1.heap.push (.loop lc) }
 let dd:Deferred:={ target:=.fn (.func g) cap',args:=first'++#[Value.func (.yield w1.heap.size) #[] #[]] }
 have g1:(resolve a.eval (rangeCall f w1.heap.size) 0).run P W=.ok dd W:=by
  simp only[resolve,hz,Deferred.ofValue,Sem.run_pure];simp[Act.eval]
  rfl
 have g2:(invoke dd.target dd.args).run P W=.ok (.enter g (first'++#[Value.func (.yield w1.heap.size) #[] #[]]++cap')) W:=by
  simp only[dd,invoke];exact ZC7 hb _ _
 have hargs:VRL (Dx.upd (Dx.upd ι h.nx bir) (h.nx+1) bi) (first++(Value.func (.yield (h.nx+1)) ⟨[]⟩ ⟨[]⟩::cap)) (first'++#[Value.func (.yield w1.heap.size) #[] #[]]++cap').toList:=by
  have e1:(first'++#[Value.func (.yield w1.heap.size) #[] #[]]++cap').toList=first'.toList++(Value.func (.yield w1.heap.size) #[] #[]::cap'.toList):=by simp
  rw[e1];exact ((hfirst.mono hsub).mono hsub2).append (.cons (VR.yield hi1) ((hcap.mono hsub).mono hsub2))
 suffices g3:Calls P g (first'++#[Value.func (.yield w1.heap.size) #[] #[]]++cap') W (rangePost F 0 P w1.heap.size (PQ fr ι h w Q) { a with defers:=[{ target:=.collected w.heap.size,args:=#[] }]++a.defers }) by
  refine⟨_,_,_,dd,_,g,_,_,?_,g1,fun f' _=>hF.fn f',g2,(fun hd=>by rw[hF.depth] at hd;cases hd),hF.calls g3⟩;rw[hro];simp[Instr.enterLoop];exact⟨by simp[w1],rfl⟩
 refine ((hv e hs).w _ _ _ hadd2.1 hargs).mono ?_;rintro en w2 ⟨r,hR,hP⟩
 cases r with
 | no=>exact hP.elim
 | pan v h1=>exact hR.elim
 | ret v h1 =>
 obtain⟨st,pend,fn2,nt2,e2,ps2,as2,bd2,df2,hg2,hst,hQ1,hQ2⟩:=hR;obtain⟨ι2,v',rfl,_,hr2,ad2⟩:=hP;have hi2:=ad2.sub _ _ hi1;obtain⟨lc2,hw2,n1,n2,n4,n5,n6,n7,n8,bi2',n9,n10⟩:=hr2.loopAt hg2 hi2
 have hset2:=hr2.set (o2:=.loop .exhausted pend fn2 nt2 e2 ps2 as2 bd2 df2) (o2':=.loop { lc2 with state:=.exhausted }) hg2 hi2 (by
  simp only[OR];exact⟨trivial,n2,n4,n5,n6,n7,n8,bi2',n9,n10⟩)
 have hend:(Instr.endLoop w1.heap.size).run P w2=.ok pend { w2 with heap:=w2.heap.setIfInBounds w1.heap.size (.loop { lc2 with state:=.exhausted }) }:=by
  have hw2':w2.heap[w1.heap.size]?=some (.loop lc2):=hw2;have hbs:(lc2.state == .busy)=false:=by rw[n1];cases st <;> first|rfl|exact absurd rfl hst
  simp only[Instr.endLoop,Sem.run_bind,ZBx hw2',Result.andThen_ok,hbs,Bool.false_eq_true,if_false,ZCs hw2',Sem.run_pure,n2]
 have hadv:Adv ι h w ι2 (h1.set (h.nx+1) (.loop .exhausted pend fn2 nt2 e2 ps2 as2 bd2 df2)) { w2 with heap:=w2.heap.setIfInBounds w1.heap.size (.loop { lc2 with state:=.exhausted }) }:=hadd.2.trans ((hadd2.2.trans ad2).trans hset2.2)
 have hf2:FR VT fr ι2 e (.coll h.nx::ds) { a with defers:=[{ target:=.collected w.heap.size,args:=#[] }]++a.defers }:=(hf1.mono hsub2).mono ad2.sub
 have hF2:FenR ι2 fr.rd F:=(hF1.mono hsub2).mono ad2.sub;refine⟨pend,_,hend,?_⟩
 cases pend with
 | none=>exact⟨.normal,e,_,_,m,hs,hQ1 rfl,ι2,hadv,hset2.1,hf2,.normal⟩
 | some c =>
  refine wpIn_mono ((hQ2 c rfl).w e hs ι2 { w2 with heap:=w2.heap.setIfInBounds w1.heap.size (.loop { lc2 with state:=.exhausted }) } _ F hset2.1 hf2 hF2) ?_
  intro ex a3 w3 hp;exact hp.trans hadv
end
def Exb (S:Nat->Prop)(h h':Heap):Prop:=(∀b o,¬S b->h.get b=some o->h'.get b=some o)/\h.nx<=h'.nx/\h'.gl=h.gl
section
variable {S S':Nat->Prop}{h h0 h1 h2:Heap}
theorem Exb.refl (S:Nat->Prop)(h:Heap):Exb S h h:=⟨fun _ _ _ x=>x,Nat.le_refl _,rfl⟩
theorem Exb.trans (a:Exb S h h1)(b:Exb S h1 h2):Exb S h h2:=⟨fun c o hs x=>b.1 c o hs (a.1 c o hs x),Nat.le_trans a.2.1 b.2.1,b.2.2.trans a.2.2⟩
theorem Exb.of (a:Ext h h1):Exb S h h1:=⟨fun c o _ x=>a.1 c o x,a.2.1,a.2.2⟩
theorem Exb.mono (a:Exb S h h1)(hs:∀b,S b->S' b):Exb S' h h1:=⟨fun c o hn x=>a.1 c o (fun y=>hn (hs c y)) x,a.2.1,a.2.2⟩
theorem Exb.upd {b:Nat}{o:AO}(a:Exb S h h1)(u:Upd h1 b o h2)(hb:S b):Exb S h h2 :=
 ⟨fun c x hn hc=>by rw[u.other c (fun e=>hn (by rw[e];exact hb))];exact a.1 c x hn hc,by rw[u.nx];exact a.2.1,u.gl.trans a.2.2⟩
theorem Exb.get (a:Exb S h h1){b:Nat}{o:AO}(hn:¬S b)(hg:h.get b=some o):h1.get b=some o:=a.1 b o hn hg
theorem Exb.ext (a:Exb S h1 h2)(he:Ext h0 h1)(hw:WF h0)(hs:∀b,S b->h0.nx<=b):Ext h0 h2 :=
 ⟨fun c x hc=>a.1 c x (fun y=>by have:=hs c y;have:=hw c x hc;omega) (he.1 c x hc),Nat.le_trans he.2.1 a.2.1,a.2.2.trans he.2.2⟩
theorem Exb.new (a:Exb (fun b=>S b\/h.nx<=b) h h1)(hw:WF h):Exb S h h1 :=
 ⟨fun c x hn hc=>a.1 c x (fun y=>y.elim hn (fun y=>by have:=hw c x hc;omega)) hc,a.2.1,a.2.2⟩
theorem Exb.set {b:Nat}(a:Exb S h h1)(o:AO)(hb:S b):Exb S h (h1.set b o):=a.upd (Upd.mk' h1 b o) hb
end
noncomputable def delL (h:Heap):List Nat->Heap
 | []=>h
 | r::l=>delL (h.del r) l
theorem ZFn {b:Nat}:∀{rs:List Nat}{h:Heap},b ∉ rs->(delL h rs).get b=h.get b
 | [],_,_=>rfl
 | r::rs,h,hn=>by
  have h1:b≠r:=fun e=>hn (by rw[e];exact List.mem_cons_self)
  show (delL (h.del r) rs).get b=_
  rw[ZFn (fun hm=>hn (List.mem_cons_of_mem _ hm)),Heap.get_del_other h1]
theorem ZHn:∀{rs:List Nat}{h:Heap},(delL h rs).nx=h.nx/\(delL h rs).gl=h.gl
 | [],_=>⟨rfl,rfl⟩
 | r::rs,h=>by
  have:=ZHn (rs:=rs) (h:=h.del r);exact this
theorem Ext.delL {h0 h:Heap}(a:Ext h0 h)(hw:WF h0){rs:List Nat}(hr:∀r∈rs,h0.nx<=r):Ext h0 (Dw.delL h rs):=by
 refine⟨fun c x hc=>?_,?_,?_⟩
 ·rw[ZFn (fun hm=>by have:=hr c hm;have:=hw c x hc;omega)];exact a.1 c x hc
 ·rw[ZHn.1];exact a.2.1
 ·rw[ZHn.2];exact a.2.2
theorem Exb.delL {S:Nat->Prop}{h0 h:Heap}(a:Exb S h0 h)(hw:WF h0){rs:List Nat}(hr:∀r∈rs,h0.nx<=r):Exb S h0 (Dw.delL h rs):=by
 refine⟨fun c x hn hc=>?_,?_,?_⟩
 ·rw[ZFn (fun hm=>by have:=hr c hm;have:=hw c x hc;omega)];exact a.1 c x hn hc
 ·rw[ZHn.1];exact a.2.1
 ·rw[ZHn.2];exact a.2.2
theorem ZHV {ev:Ev}{fn:Func}{e:Env}{ds:List ADef}{rc:RC}:∀{rs:List Nat}{h:Heap},rs.Nodup->(∀r∈rs,h.get r=some .defd)->ZDD P VT ev fn e (rs.map .coll++ds) rc h=ZDD P VT ev fn e ds rc (delL h rs)
 | [],h,_,_=>rfl
 | r::rs,h,hn,hd=>by
  rw[List.nodup_cons] at hn
  show ZDD P VT ev fn e (.coll r::(rs.map .coll++ds)) rc h=_
  rw[ZDD,hd r List.mem_cons_self];simp only
  rw[ZHV hn.2 (fun x hx=>by
   rw[Heap.get_del_other (fun e=>hn.1 (by rw[<-e];exact hx))];exact hd x (List.mem_cons_of_mem _ hx))]
  rfl
theorem ZJz {fn:Func}{R:VS->Prop}{m:Mem}{h:Heap}{vs:List Value}{rs:List Nat}(hn:rs.Nodup)(hd:∀r∈rs,h.get r=some .defd)(hr:resk P (delL h rs) m fn.results.toList=some vs)(hR:R (.ret (ZHX vs) (delL h rs))):Lv P fn R .ret m (rs.map .coll) h:=by
 intro e hs;refine⟨evNo,.ret (ZHX vs) (delL h rs),ZGM P,?_,by simp,hR⟩;have:=ZHV (P:=P) (ev:=evNo) (fn:=fn) (e:=e) (ds:=[]) (rc:=.none) hn hd;rw[List.append_nil] at this;rw[this];simp only[ZDD,ZDc hs hr]
variable {P:Program}
class Plc (P:Program) (t:TypeId) (pl:outParam (List (Nat×Nat))):Prop where
 h:∃fields,P.underlying t=some (.struct fields)/\places P fields.toList=some pl
class Fld (P:Program) (t:TypeId) (f:Nat) (off:outParam Nat):Prop where
 h:∃fields fd d,P.underlying t=some (.struct fields)/\fields[f]?=some fd/\fd.offset=off/\P.underlying fd.type=some d/\ZDa d=false
class NotI (P:Program) (t:TypeId):Prop where
 h:∃d,P.underlying t=some d/\ZEb d=false/\∀m,d≠.interface m
section
variable {m:Mem}{h:Heap}{d:Option Tmp}{ty:TypeId}{pos:String}{af:Array Edge}{gu:Option (Nat×Bool)}
theorem ZMx {t:TypeId}{ps:Array (Nat×Operand)}{parts:List (Nat×Value)}{z:Value}{pl:List (Nat×Nat)}{cs:List Value} [hZ:Zr P t z] [hP:Plc P t pl](hp:opks h m ps.toList=some parts)(hf:Instr.fill (pl.toArray[·]?) z.cells parts=some ⟨cs⟩) :
  Aop P ⟨d,.build t ps,ty,pos,af,gu⟩ m h (.agg ⟨cs⟩) h :=
 ZAe fun e hs=>by
  obtain⟨fields,h1,h2⟩:=hP.h
  show ZGk P h e t ps=_
  unfold ZGk;rw[ZEM hs hp];simp only[ZLX,hZ.h,h1,h2,hf]
theorem ZQF {t:TypeId}{x:Operand}{f off:Nat}{cs:List Value}{v:Value} [hF:Fld P t f off](hx:opk h m x=some (.agg ⟨cs⟩))(hv:nth cs off=some v):Aop P ⟨d,.field t x f,ty,pos,af,gu⟩ m h v h :=
 ZAe fun e hs=>by
  obtain⟨fields,fd,dd,h1,h2,h3,h4,h5⟩:=hF.h
  show ZJK P h e t x f=_
  unfold ZJK;rw[ZAM hs hx];have:ZKn P t (.agg ⟨cs⟩) f=some v:=by
   simp only[ZKn,h1,h2,ZMb,h4,h5,h3];exact hv
  simp only[this]
theorem ZTu {t:TypeId}{x:Operand}{v:Value} [hN:NotI P t](hx:opk h m x=some v):Aop P ⟨d,.makeInterface t x,ty,pos,af,gu⟩ m h (.iface t v) h :=
 ZVl hx fun e he=>by
  obtain⟨dd,h1,h2,h3⟩:=hN.h;unfold ZI0;rw[he];have:ZBq P t v=some (.iface t v):=by
   unfold ZBq;rw[h1];cases dd <;> first|rfl|exact absurd rfl (h3 _)
  simp only[this]
theorem ZSs {x:Operand}{t:TypeId}{xt:TypeId}{v:Value} [hN:NotI P t](hx:opk h m x=some (.iface t v)):Aop P ⟨d,.typeAssert x xt t false,ty,pos,af,gu⟩ m h v h :=
 ZAe fun e hs=>by
  obtain⟨dd,h1,h2,_⟩:=hN.h
  show ZGH P h e x t false=_
  unfold ZGH;rw[ZAM hs hx];have:ZCp P (.iface t v) t false=some v:=by
   have hb:Nat.beq t t=true:=Nat.beq_refl t;simp only[ZCp,h1,h2,hb]
  simp only[this]
end
theorem ZCb {α β:Type}{f:α->β}:∀{l:List α}{i:Nat},(l.eraseIdx i).map f=(l.map f).eraseIdx i
 | [],_=>rfl
 | _::_,0=>rfl
 | x::l,i+1=>by simp[ZCb (l:=l)]
section maps
variable {t:TypeId} {α:Type} [DecidableEq α](K:KeyK P t α)
def MapB (h:Heap)(b:Nat)(l:List (α×Value)):Prop:=∃es clock,h.get b=some (.map es clock)/\Ents K es l/\(es.map MapEntry.born).Nodup/\∀e∈es,e.born<clock
theorem MapB.at' {h:Heap}{b:Nat}{l:List (α×Value)}(hm:MapB K h b l):ZD9 K h b l:=by
 obtain⟨es,c,h1,h2,_⟩:=hm;exact⟨es,c,h1,h2⟩
theorem MapB.new {h:Heap}{b:Nat}(hg:h.get b=some (.map [] 0)):MapB K h b []:=⟨[],0,hg,rfl,by simp,fun _ h=>by cases h⟩
theorem MapB.get {h h':Heap}{b:Nat}{l:List (α×Value)}(hm:MapB K h b l)(he:h'.get b=h.get b):MapB K h' b l:=by
 obtain⟨es,c,h1,h2⟩:=hm;exact⟨es,c,he.trans h1,h2⟩
theorem MapB.some {h h':Heap}{b:Nat}{l:List (α×Value)}(hm:MapB K h b l)(he:∀o,h.get b=some o->h'.get b=some o):MapB K h' b l:=by
 obtain⟨es,c,h1,h2⟩:=hm;exact⟨es,c,he _ h1,h2⟩
theorem MapB.ext {h h':Heap}{b:Nat}{l:List (α×Value)}(hm:MapB K h b l)(he:Ext h h'):MapB K h' b l:=MapB.some K hm fun _=>he.get
theorem MapB.lt {h:Heap}{b:Nat}{l:List (α×Value)}(hm:MapB K h b l)(hw:WF h):b<h.nx:=by
 obtain⟨es,c,h1,_⟩:=hm;exact hw _ _ h1
section
variable {m:Mem}{h:Heap}{d:Option Tmp}{ty:TypeId}{pos:String}{af:Array Edge}{gu:Option (Nat×Bool)}
end
section
variable {fr:Fr}{m:Mem}{ds:List ADef}{h:Heap}{Q:CQ}{ops:Array Oper}{lo:List Oper}{d:Option Tmp}{ty:TypeId}{pos:String}{af:Array Edge}{gu:Option (Nat×Bool)}
theorem ZGs {k:α}{l:List (α×Value)}{es:List MapEntry}{j:Nat}(h2:Ents K es l)(hj:idx k l 0=some j):∃v s,es[j]?=some ⟨K.enc k,v,s⟩/\lkp k l=some v:=by
 rcases ZDy k l 0 with ⟨g1,_⟩|⟨i,v,g1,g2,⟨p,g3,g4⟩,_⟩
 ·rw[g1] at hj;cases hj
 ·rw[g1] at hj;simp at hj;subst hj
  have:(es.map fun e=>(e.key,e.val))[i]?=some (K.enc k,v):=by rw[h2];simp[g3,g4]
  rw[List.getElem?_map] at this
  cases he:es[i]? with
  | none=>rw[he] at this;cases this
  | some e =>
   rw[he] at this;simp at this;exact⟨v,e.born,by rw[<-this.1,<-this.2],g2⟩
theorem ZLi {es:List MapEntry}{j:Nat}{k v v':Value}{s:Nat}(hj:es[j]?=some ⟨k,v,s⟩)(k':Value):(es.set j ⟨k',v',s⟩).map MapEntry.born=es.map MapEntry.born:=by
 rw[List.map_set];apply List.ext_getElem?;intro i;rw[List.getElem?_set]
 split
 ·rename_i e;subst e
  rw[List.getElem?_map,hj];have:=(List.getElem?_eq_some_iff.1 hj).1;simp[this]
 ·rfl
theorem ZFF {tm el:TypeId}{b:Nat}{l:List (α×Value)}{k:α}{v:Value}(hu:P.underlying tm=some (.map t el))(hm:MapB K h b l) :
  ∃o,ZBh P tm (.map (some b)) (K.enc k) v h=some (h.set b o)/\∀h',h'.get b=some o->MapB K h' b (setK k v l):=by
 obtain⟨es,clock,h1,h2,h3,h4⟩:=hm;unfold ZBh;simp only[hu,K.hks,h1,K.flat,K.ok,h2.fk]
 cases hj:idx k l 0 with
 | none =>
  have hno:lkp k l=none:=by
   rcases ZDy k l 0 with ⟨_,g⟩|⟨i,v,g1,_⟩
   ·exact g
   ·rw[hj] at g1;cases g1
  refine⟨_,rfl,fun h' hh=>⟨_,_,hh,h2.app K hno,?_,?_⟩⟩
  ·rw[List.map_append,List.nodup_append]
   refine⟨h3,by simp,fun x hx y hy e=>?_⟩;obtain⟨en,he,e1⟩:=List.mem_map.1 hx;have:=h4 en he;simp at hy;omega
  ·intro e he
   rcases List.mem_append.1 he with g|g
   ·have:=h4 e g;show e.born<clock+1;omega
   ·rw[List.mem_singleton.1 g];exact Nat.lt_succ_self _
 | some j =>
  obtain⟨v0,s,g1,_⟩:=ZGs K h2 hj;simp only[ZAv,g1,K.same];refine⟨_,rfl,fun h' hh=>⟨_,_,hh,h2.set K hj,?_,?_⟩⟩
  ·rw[ZLi g1];exact h3
  ·intro e he
   rcases List.mem_or_eq_of_mem_set he with g|g
   ·exact h4 e g
   ·rw[g];exact (h4 ⟨K.enc k,v0,s⟩ (List.mem_of_getElem? g1):s<clock)
theorem ZJk {tm el:TypeId}{x y z:Operand}{b:Nat}{l:List (α×Value)}{k:α}{v:Value}(hg:gk ops.toList m gu=some true)(hu:P.underlying tm=some (.map t el))(hx:opk h m x=some (.map (some b)))(hm:MapB K h b l)(hy:opk h m y=some (K.enc k))(hz:opk h m z=some v)
  (hk:∀h1 o,Upd h b o h1->MapB K h1 b (setK k v l)->Wo P fr ops lo m ds h1 Q):Wo P fr ops (⟨none,.mapUpdate tm x y z,ty,pos,af,gu⟩::lo) m ds h Q:=by
 obtain⟨o,h1,h2⟩:=ZFF K (v:=v) (k:=k) hu hm;refine ZGe (v:=.tuple ⟨[]⟩) hg rfl rfl (ZAe fun e hs=>?_) (hk _ o (Upd.mk' h b o) (h2 _ (Heap.get_set_self _ _ _)))
 show ZBk P h e tm x y z=_
 unfold ZBk;rw[ZAM hs hx,ZAM hs hy,ZAM hs hz];simp only[h1]
theorem ZJn {o1:Oper}{Kk Kp:Value->List ADef->Heap->Prop}{tm el:TypeId}{x y z:Operand}{b:Nat}{l:List (α×Value)}{k:α}{v:Value}(ho1:o1=⟨d,.mapUpdate tm x y z,ty,pos,af,gu⟩)(hg:gk ops.toList m gu=some true)(hu:P.underlying tm=some (.map t el))(hx:opk h m x=some (.map (some b)))(hm:MapB K h b l)(hy:opk h m y=some (K.enc k))(hz:opk h m z=some v)
  (hk:∀h1 o,Upd h b o h1->MapB K h1 b (setK k v l)->Kk (.tuple ⟨[]⟩) ds h1):W1 P fr ops o1 m ds h Kk Kp:=by
 subst ho1;obtain⟨o,h1,h2⟩:=ZFF K (v:=v) (k:=k) hu hm;refine ZCU hg rfl (ZAe fun e hs=>?_) (hk _ o (Upd.mk' h b o) (h2 _ (Heap.get_set_self _ _ _)))
 show ZBk P h e tm x y z=_
 unfold ZBk;rw[ZAM hs hx,ZAM hs hy,ZAM hs hz];simp only[h1]
theorem ZKy {k:α}:∀{l:List (α×Value)}{i j:Nat},idx k l i=some (i+j)->delK k l=l.eraseIdx j
 | [],_,_,h=>by cases h
 | p::l,i,j,h=>by
  unfold idx at h
  by_cases hk:k=p.1
  ·simp only[hk,if_true,Option.some.injEq] at h
   have:j=0:=by omega
   subst this;simp[delK,hk]
  ·simp only[hk,if_false] at h
   cases j with
   | zero =>
    exfalso
    rcases ZDy k l (i+1) with ⟨h1,_⟩|⟨j,_,h1,_⟩
    ·rw[h1] at h;cases h
    ·rw[h1] at h;simp at h;omega
   | succ j =>
    have:=ZKy (k:=k) (l:=l) (i:=i+1) (j:=j) (by rw[h];congr 1;omega);simp[delK,hk,this]
theorem ZLy {k:α}:∀{l:List (α×Value)}{i:Nat},idx k l i=none->delK k l=l
 | [],_,_=>rfl
 | p::l,i,h=>by
  unfold idx at h
  by_cases hk:k=p.1
  ·simp[hk] at h
  ·simp only[hk,if_false] at h
   simp[delK,hk,ZLy h]
def Once (l:List (α×Value)):Prop:=(l.map Prod.fst).Nodup
theorem ZGl {k:α}:∀{l:List (α×Value)},lkp k l=none ↔ k ∉ l.map Prod.fst
 | []=>by simp[lkp]
 | p::l=>by
  unfold lkp
  by_cases hk:k=p.1
  ·simp[hk]
  ·simp[hk,ZGl (l:=l)]
theorem ZKu {k:α}{v:Value}:∀{l:List (α×Value)},(setK k v l).map Prod.fst=if k∈l.map Prod.fst then l.map Prod.fst else l.map Prod.fst++[k]
 | []=>by simp[setK]
 | p::l=>by
  unfold setK
  by_cases hk:k=p.1
  ·simp[hk]
  ·rw[if_neg hk]
   simp only[List.map_cons,ZKu (l:=l),List.mem_cons,hk,false_or]
   split <;> simp
theorem Once.set {k:α}{v:Value}{l:List (α×Value)}(h:Once l):Once (setK k v l):=by
 unfold Once at *;rw[ZKu]
 split
 ·exact h
 ·rename_i hn
  rw[List.nodup_append];exact⟨h,by simp,fun a ha b hb e=>hn (by simp at hb;rw[<-hb,<-e];exact ha)⟩
theorem ZOB (k k':α):∀{l:List (α×Value)},Once l->lkp k' (delK k l)=if k'=k then none else lkp k' l
 | [],_=>by simp[delK,lkp]
 | p::l,h=>by
  unfold Once at h;rw[List.map_cons,List.nodup_cons] at h;unfold delK
  by_cases hk:k=p.1
  ·rw[if_pos hk]
   by_cases hq:k'=k
   ·rw[if_pos hq,hq,hk,ZGl];exact h.1
   ·rw[if_neg hq]
    have:¬k'=p.1:=by rw[<-hk];exact hq
    simp[lkp,this]
  ·rw[if_neg hk]
   simp only[lkp,ZOB k k' (l:=l) h.2]
   by_cases hq:k'=p.1
   ·have:¬k'=k:=fun e=>hk (e.symm.trans hq)
    simp[hq,this];intro e;exact absurd e.symm hk
   ·simp[hq]
theorem Once.del {k:α}:∀{l:List (α×Value)},Once l->Once (delK k l)
 | [],h=>h
 | p::l,h=>by
  unfold Once at h ⊢;rw[List.map_cons,List.nodup_cons] at h;unfold delK
  by_cases hk:k=p.1
  ·rw[if_pos hk];exact h.2
  ·rw[if_neg hk,List.map_cons,List.nodup_cons]
   refine⟨fun hm=>h.1 ?_,Once.del (l:=l) h.2⟩;have hsub:∀{l:List (α×Value)} {x:α},x∈(delK k l).map Prod.fst->x∈l.map Prod.fst:=by
    intro l
    induction l with
    | nil=>intro x hx;exact hx
    | cons q l ih =>
     intro x hx;unfold delK at hx
     by_cases hq:k=q.1
     ·rw[if_pos hq] at hx;exact List.mem_cons_of_mem _ hx
     ·rw[if_neg hq] at hx
      rcases List.mem_cons.1 hx with e|g
      ·rw[e];exact List.mem_cons_self
      ·exact List.mem_cons_of_mem _ (ih g)
   exact hsub hm
theorem ZPZ {c:Call}{tm el:TypeId}{ts:List TypeId}{x y:Operand}{b:Nat}{l:List (α×Value)}{k:α}(hg:gk ops.toList m gu=some true)(hc:c.callee=.builtin .delete)(hargs:c.args=#[x,y])(hat:c.argTypes.toList=tm::ts)(hu:P.underlying tm=some (.map t el))(hx:opk h m x=some (.map (some b)))(hm:MapB K h b l)(hy:opk h m y=some (K.enc k))
  (hk:∀h1 o,Upd h b o h1->MapB K h1 b (delK k l)->Wo P fr ops lo m ds h1 Q):Wo P fr ops (⟨none,.call c,ty,pos,af,gu⟩::lo) m ds h Q:=by
 obtain⟨es,clock,h1,h2,h3,h4⟩:=hm;have hp:ZDx (.call c)=true:=by show ZCR c.callee=true;rw[hc];rfl
 have hgo:∀{h1:Heap},ZEH P tm (.map (some b)) (K.enc k) h=some h1->Aop P ⟨none,.call c,ty,pos,af,gu⟩ m h (.tuple ⟨[]⟩) h1:=fun ha=>ZAe fun e hs=>by
  show ZEo P _ h e c=_
  unfold ZEo;rw[hc];simp only[hargs,hat,ZCC,ZAM hs hx,ZAM hs hy,ha]
 cases hj:idx k l 0 with
 | none =>
  have ha:ZEH P tm (.map (some b)) (K.enc k) h=some h:=by
   unfold ZEH;simp only[hu,K.hks,h1,K.flat,K.ok,h2.fk,hj]
  refine ZGe hg hp rfl (hgo ha) (hk h _ ⟨h1,fun _ _=>rfl,rfl,rfl⟩ ?_);rw[ZLy hj];exact⟨es,clock,h1,h2,h3,h4⟩
 | some j =>
  have ha:ZEH P tm (.map (some b)) (K.enc k) h=some (h.set b (.map (es.eraseIdx j) clock)):=by
   unfold ZEH;simp only[hu,K.hks,h1,K.flat,K.ok,h2.fk,hj]
  refine ZGe hg hp rfl (hgo ha) (hk _ _ (Upd.mk' h b _) ?_);rw[ZKy (k:=k) (l:=l) (i:=0) (j:=j) (by simpa using hj)];refine⟨_,_,Heap.get_set_self _ _ _,?_,?_,fun e he=>h4 e (List.mem_of_mem_eraseIdx he)⟩
  ·unfold Ents at h2 ⊢
   rw[ZCb,h2,ZCb]
  ·rw[ZCb];exact h3.eraseIdx j
end
end maps
variable {P:Program}
def ZAF (h0 h:Heap)(v:Value)(el:TypeId)(sz:Nat)(cs:List Value)(n:Nat):Prop :=
 (v=.slice none 0 0/\cs=[]/\n=0)\/∃b sp op,v=.slice (some ⟨b,0,sp⟩) n n/\h.get b=some (.cells cs el op)/\cs.length=n*sz/\h0.nx<=b/\(sp=none\/sp=some sz)
theorem ZAF.nil (h0 h:Heap)(el:TypeId)(sz:Nat):ZAF h0 h (.slice none 0 0) el sz [] 0:=.inl ⟨rfl,rfl,rfl⟩
theorem ZAF.lit {h0 h:Heap}{b n sz:Nat}{el:TypeId}{cs:List Value}{op:Bool}(hg:h.get b=some (.cells cs el op))(hl:cs.length=n*sz)(hb:h0.nx<=b):ZAF h0 h (.slice (some ⟨b,0,none⟩) n n) el sz cs n:=.inr ⟨b,none,op,rfl,hg,hl,hb,.inl rfl⟩
theorem ZFT.fresh {h0 h:Heap}{v:Value}{el:TypeId}{sz:Nat}{cs:List Value}{n:Nat}(ho:ZFT h0 h v el sz cs n):ZAF h0 h v el sz cs n:=by
 rcases ho with g|⟨b,h1,h2,h3,h4⟩
 ·exact .inl g
 ·exact .inr ⟨b,some sz,true,h1,h2,h3,h4,.inr rfl⟩
theorem ZAF.keep {h0 h h':Heap}{v:Value}{el:TypeId}{sz:Nat}{cs:List Value}{n:Nat}(ho:ZAF h0 h v el sz cs n)(he:∀b o,ZBM v=some b->h.get b=some o->h'.get b=some o):ZAF h0 h' v el sz cs n:=by
 rcases ho with g|⟨b,sp,op,h1,h2,h3,h4,h5⟩
 ·exact .inl g
 ·exact .inr ⟨b,sp,op,h1,he b _ (by rw[h1];rfl) h2,h3,h4,h5⟩
theorem ZAF.ext {h0 h h':Heap}{v:Value}{el:TypeId}{sz:Nat}{cs:List Value}{n:Nat}(ho:ZAF h0 h v el sz cs n)(he:Ext h h'):ZAF h0 h' v el sz cs n:=ho.keep fun _ _ _=>he.get
theorem ZAF.base {h0 h1 h:Heap}{v:Value}{el:TypeId}{sz:Nat}{cs:List Value}{n:Nat}(ho:ZAF h1 h v el sz cs n)(he:h0.nx<=h1.nx):ZAF h0 h v el sz cs n:=by
 rcases ho with g|⟨b,sp,op,h1,h2,h3,h4,h5⟩
 ·exact .inl g
 ·exact .inr ⟨b,sp,op,h1,h2,h3,Nat.le_trans he h4,h5⟩
theorem ZAF.len {h0 h:Heap}{v:Value}{el:TypeId}{sz:Nat}{cs:List Value}{n:Nat}(ho:ZAF h0 h v el sz cs n):cs.length=n*sz:=by
 rcases ho with ⟨_,rfl,rfl⟩|⟨b,sp,op,h1,h2,h3,h4,h5⟩
 ·simp
 ·exact h3
theorem ZAF.is {h0 h:Heap}{v:Value}{el:TypeId}{sz:Nat}{cs:List Value}{n:Nat}(ho:ZAF h0 h v el sz cs n):∃a,v=.slice a n n/\cs.length=n*sz/\∀i<cs.length,∃b o oa,a=some ⟨b,o,oa⟩/\ZAS h b (o+i)=cs[i]?:=by
 rcases ho with ⟨rfl,rfl,rfl⟩|⟨b,sp,op,rfl,h2,h3,h4,_⟩
 ·exact⟨none,rfl,by simp,fun i hi=>by simp at hi⟩
 ·refine⟨_,rfl,h3,fun i hi=>⟨b,0,_,rfl,?_⟩⟩
  rw[List.getElem?_eq_getElem hi];exact ZAb h2 (by rw[ZAv,Nat.zero_add,List.getElem?_eq_getElem hi])
theorem ZAF.list {α:Type}{enc:α->Value}{h0 h:Heap}{v:Value}{el:TypeId}{l:List α}{n:Nat}(ho:ZAF h0 h v el 1 (l.map enc) n):∃a,v=.slice a l.length l.length/\n=l.length/\ZAi enc h a l:=by
 obtain⟨a,h1,h2,h3⟩:=ho.is;have hn:n=l.length:=by simp at h2;exact h2.symm
 subst hn;refine⟨a,h1,rfl,fun i hi=>?_⟩;obtain⟨b,o,oa,h4,h5⟩:=h3 i (by simpa using hi);refine⟨b,o,oa,h4,?_⟩;rw[Nat.mul_one,h5];simp[hi]
theorem ZAF.src {h0 h:Heap}{v:Value}{el tX:TypeId}{sz:Nat}{cs:List Value}{n:Nat}{dd:TypeDesc}(ho:ZAF h0 h v el sz cs n)(hX:P.underlying tX=some dd)(hni:∀k,dd≠.int k):asrc P el sz tX v h=some (n,cs):=by
 rcases ho with ⟨rfl,rfl,rfl⟩|⟨b,sp,op,rfl,h2,h3,h4,_⟩
 ·unfold asrc
  rw[hX];cases dd <;> first|rfl|exact absurd rfl (hni _)
 ·refine ZAs hX hni (ZAP h2 ?_)
  unfold cut;have:Nat.ble (Nat.add 0 (n*sz)) cs.length=true:=Nat.ble_eq_true_of_le (by show 0+n*sz<=cs.length;omega);rw[this];simp only[List.drop_zero]
  congr 1
  exact List.take_of_length_le (by omega)
section
variable {fr:Fr}{m:Mem}{ds:List ADef}{h:Heap}{Q:CQ}{ops:Array Oper}{lo:List Oper}{d:Nat}{ty:TypeId}{pos:String}{af:Array Edge}{gu:Option (Nat×Bool)}
theorem ZFr {h0:Heap}{tS tX el:TypeId}{sz by':Nat}{v x:Value}{cs l:List Value}{n k:Nat}(hw0:WF h0)(hw:WF h)(he0:Ext h0 h)(hS:P.underlying tS=some (.slice el))(hE:Elm P el sz by')(ho:ZAF h0 h v el sz cs n)(hsrc:asrc P el sz tX x h=some (k,l))(hl:l.length=k*sz)(h1:allOne l=true)
  (hb:((n+k)+(n+k) / 4+512)*by'<=281474976710656) (hb2:n+k<281474976710656) :
  ∃v' h',ZCX P tS tX v x h=.ok v' h'/\ZAF h0 h' v' el sz (cs++l) (n+k)/\Ext h0 h'/\Keep h h' (ZBM v)/\h.nx<=h'.nx/\(ZBM v'=ZBM v\/∃b,ZBM v'=some b/\h.nx<=b):=by
 obtain⟨i,z,i1,i2,i3,i4,i5,i6⟩:=hE.h;have hsz0:0<sz:=by rw[Nat.blt_eq] at i6;exact i6
 rcases ho with ⟨rfl,rfl,rfl⟩|⟨b,sp,op,rfl,g2,g3,g4,g5⟩
 ·rcases Nat.eq_zero_or_pos k with rfl|hk0
  ·have hl0:l=[]:=List.eq_nil_of_length_eq_zero (by simpa using hl)
   subst hl0;refine⟨.slice none 0 0,h,?_,.inl ⟨rfl,by simp,rfl⟩,he0,fun _ _ _ hc=>hc,Nat.le_refl _,.inl rfl⟩;unfold ZCX;simp only[hS,i1,i4,i2,i5,i6,hsrc]
   rfl
  ·obtain⟨v',h',a1,a2,a3,a4⟩:=ZNJ (P:=P) hw0 hw he0 hS hE (ZFT.nil h0 h el sz) hsrc hl h1 hb hb2 hk0
   refine⟨v',h',a1,a2.fresh,a3,a4,?_,?_⟩
   ·unfold ZCX at a1
    have e1:Nat.ble (Nat.mul (Nat.add (Nat.add (Nat.add 0 k) (Nat.div (Nat.add 0 k) 4)) 512) by') 281474976710656=true:=Nat.ble_eq_true_of_le hb;have e2:Nat.blt (Nat.add 0 k) 281474976710656=true:=by rw[Nat.blt_eq];exact hb2
    have e3:Nat.ble (Nat.add 0 k) 0=false:=by
     cases hq:Nat.ble (Nat.add 0 k) 0 with
     | false=>rfl
     | true=>have:=Nat.le_of_ble_eq_true hq;simp at this;omega
    have e4:Nat.beq 0 0=true:=rfl;simp only[hS,i1,i4,i2,i5,i6,hsrc,i3,e3,e4,e1,e2] at a1;unfold ZIS at a1;cases a1;exact Nat.le_succ _
   ·right
    rcases a2 with ⟨_,hq,_⟩|⟨b',q1,q2,q3,q4⟩
    ·exfalso
     have:l.length=0:=by have:=congrArg List.length hq;simpa using this
     rw[hl] at this
     rcases Nat.mul_eq_zero.1 this with g|g <;> omega
    ·refine⟨b',by rw[q1];rfl,?_⟩
     unfold ZCX at a1;have e1:Nat.ble (Nat.mul (Nat.add (Nat.add (Nat.add 0 k) (Nat.div (Nat.add 0 k) 4)) 512) by') 281474976710656=true:=Nat.ble_eq_true_of_le hb;have e2:Nat.blt (Nat.add 0 k) 281474976710656=true:=by rw[Nat.blt_eq];exact hb2
     have e3:Nat.ble (Nat.add 0 k) 0=false:=by
      cases hq:Nat.ble (Nat.add 0 k) 0 with
      | false=>rfl
      | true=>have:=Nat.le_of_ble_eq_true hq;simp at this;omega
     have e4:Nat.beq 0 0=true:=rfl;simp only[hS,i1,i4,i2,i5,i6,hsrc,i3,e3,e4,e1,e2] at a1;unfold ZIS at a1;simp only[AR.ok.injEq] at a1;rw[q1] at a1;have:=a1.1;simp only[Value.slice.injEq,Option.some.injEq,Addr.mk.injEq] at this;omega
 ·have e1:Nat.ble (Nat.mul (Nat.add (Nat.add (Nat.add n k) (Nat.div (Nat.add n k) 4)) 512) by') 281474976710656=true:=Nat.ble_eq_true_of_le hb
  have e2:Nat.blt (Nat.add n k) 281474976710656=true:=by rw[Nat.blt_eq];exact hb2
  have hcut:cut cs 0 (Nat.mul n sz)=some cs:=by
   unfold cut;have:Nat.ble (Nat.add 0 (Nat.mul n sz)) cs.length=true:=Nat.ble_eq_true_of_le (by show 0+n*sz<=cs.length;omega);rw[this];simp only[List.drop_zero]
   congr 1
   exact List.take_of_length_le (by show cs.length<=n*sz;omega)
  have hlay:k=0->lay cs (Nat.add 0 (Nat.mul n sz)) l=some cs:=fun hk=>by
   subst hk;have hl0:l=[]:=List.eq_nil_of_length_eq_zero (by simpa using hl);subst hl0;rw[ZCg (by show 0+n*sz+0<=cs.length;omega)];simp
  rcases Nat.eq_zero_or_pos k with hk0|hk0
  ·have e3:Nat.ble (Nat.add n k) n=true:=Nat.ble_eq_true_of_le (by show n+k<=n;omega)
   have hl0:l=[]:=List.eq_nil_of_length_eq_zero (by rw[hl,hk0];simp);have hlay':=hlay hk0;refine⟨.slice (some ⟨b,0,sp⟩) (Nat.add n k) n,h.set b (.cells cs el op),?_,.inr ⟨b,sp,op,?_,by rw[hl0,List.append_nil];exact Heap.get_set_self _ _ _,?_,g4,g5⟩,he0.set hw0 g4 _,?_,Nat.le_refl _,.inl rfl⟩
   ·unfold ZCX
    simp only[hS,i1,i4,i2,i5,i6,hsrc]
    rcases g5 with rfl|rfl
    ·simp only[g2,h1,e3,hlay']
    ·cases sz with
     | zero=>omega
     | succ sz=>simp only[g2,h1,e3,hlay']
   ·subst hk0;rfl
   ·simp[hl0,hk0,g3]
   ·intro c o hc hg
    rw[Heap.get_set_other _ (fun e=>hc (by simp[ZBM,e]))];exact hg
  ·have e3:Nat.ble (Nat.add n k) n=false:=by
    cases hq:Nat.ble (Nat.add n k) n with
    | false=>rfl
    | true=>have:=Nat.le_of_ble_eq_true hq;have:n+k<=n:=this;omega
   have e5:Nat.beq sz sz=true:=Nat.beq_refl _;have e6:Nat.beq 0 0=true:=rfl;have e7:Nat.beq el el=true:=Nat.beq_refl _
   rcases g5 with rfl|rfl
   ·refine⟨.slice (some ⟨h.nx,0,some sz⟩) (Nat.add n k) (Nat.add n k),h.add (.cells (cs++l) el true),?_,.inr ⟨h.nx,some sz,true,rfl,Heap.get_add_same,?_,he0.2.1,.inr rfl⟩,he0.addTo hw0 _,?_,Nat.le_succ _,.inr ⟨h.nx,rfl,Nat.le_refl _⟩⟩
    ·unfold ZCX
     simp only[hS,i1,i4,i2,i5,i6,hsrc,i3,g2,h1,e3,e1,e2,hcut]
     rfl
    ·simp[hl,g3,Nat.add_mul]
    ·intro c o hc hg
     rw[Heap.get_add_other (by have:=hw c o hg;omega)];exact hg
   ·refine⟨.slice (some ⟨h.nx,0,some sz⟩) (Nat.add n k) (Nat.add n k),(h.del b).add (.cells (cs++l) el true),?_,.inr ⟨h.nx,some sz,true,rfl,Heap.get_add_same (h:=h.del b),?_,he0.2.1,.inr rfl⟩,(he0.del hw0 g4).addTo hw0 _,?_,Nat.le_succ _,.inr ⟨h.nx,rfl,Nat.le_refl _⟩⟩
    ·unfold ZCX
     cases sz with
     | zero=>omega
     | succ sz =>
      simp only[hS,i1,i4,i2,i5,i6,hsrc,i3,g2,h1,e3,e1,e2,hcut,e5,e6,e7]
      rfl
    ·simp[hl,g3,Nat.add_mul]
    ·intro c o hc hg
     have hcb:c≠b:=fun e=>hc (by simp[ZBM,e]);rw[Heap.get_add_other (h:=h.del b) (by have:=hw c o hg;show c≠h.nx;omega),Heap.get_del_other hcb];exact hg
theorem ZGV {h0:Heap}{tS tX el:TypeId}{sz by':Nat}{c:Call}{s x:Operand}{v xv:Value}{cs l:List Value}{n k:Nat}{ts:List TypeId}(hw0:WF h0)(he0:Ext h0 h)(hg:gk ops.toList m gu=some true)(hlt:Nat.blt d fr.nt=true)(hc:c.callee=.builtin .append)(hargs:c.args=#[s,x])(hat:c.argTypes.toList=tS::tX::ts)(hS:P.underlying tS=some (.slice el))(hE:Elm P el sz by')
  (hs:opk h m s=some v) (hx:opk h m x=some xv) (ho:ZAF h0 h v el sz cs n) (hsrc:asrc P el sz tX xv h=some (k,l)) (hl:l.length=k*sz) (h1:allOne l=true)
  (hb:((n+k)+(n+k) / 4+512)*by'<=281474976710656) (hb2:n+k<281474976710656)
  (hk:∀v' h',ZAF h0 h' v' el sz (cs++l) (n+k)->Ext h0 h'->Keep h h' (ZBM v)->h.nx<=h'.nx->(ZBM v'=ZBM v\/∃b,ZBM v'=some b/\h.nx<=b)->Wo P fr ops lo (upd m d v') ds h' Q):Wo P fr ops (⟨some d,.call c,ty,pos,af,gu⟩::lo) m ds h Q:=by
 refine ZBC fun hw=>?_;obtain⟨v',h',a1,a2,a3,a4,a5,a6⟩:=ZFr (P:=P) hw0 hw he0 hS hE ho hsrc hl h1 hb hb2;refine ZAV hg (by show ZCR c.callee=true;rw[hc];rfl) rfl hlt (ZAe fun e hsat=>?_) (hk v' h' a2 a3 a4 a5 a6)
 show ZEo P _ h e c=_
 unfold ZEo;rw[hc];simp only[hargs,hat,ZCC,ZAM hsat hs,ZAM hsat hx,a1]
end
section
variable {m:Mem}{h h1:Heap}{o:Oper}{p:Prop} [Decidable p]
theorem A_tt (hp:p)(hA:Aop P o m h (.bool (decide p)) h1):Aop P o m h (.bool true) h1:=by rw[decide_eq_true hp] at hA;exact hA
theorem A_ff (hp:¬p)(hA:Aop P o m h (.bool (decide p)) h1):Aop P o m h (.bool false) h1:=by rw[decide_eq_false hp] at hA;exact hA
end
theorem ZHR {h:Heap}{e:Env}{d:Option Tmp}{ty:TypeId}{pos:String}{af:Array Edge}{gu:Option (Nat×Bool)}{t:TypeId}{z:Value}(hz0:ZA9 P t=some z):ZEq P ⟨d,.alloc t,ty,pos,af,gu⟩ h e=some (.ptr,.cells z.cells.toList t false):=by
 unfold ZEq;simp only[hz0]
theorem ZA1 {fr:Fr}{ops:Array Oper}{m:Mem}{ds:List ADef}{h:Heap}{K Kp:Value->List ADef->Heap->Prop}{o:Oper}{d:Option Tmp}{ty:TypeId}{pos:String}{af:Array Edge}{gu:Option (Nat×Bool)}{t:TypeId}{x y:Operand}{b of n:Nat}{v:Value}{vs r:List Value}{el:TypeId}{op:Bool}(ho:o=⟨d,.store t x y,ty,pos,af,gu⟩)(hg:gk ops.toList m gu=some true)(ht:tsz P t=some n)(hx:opk h m x=some (.pointer (some ⟨b,of,none⟩)))(hy:opk h m y=some v)(hgb:h.get b=some (.cells vs el op))(hn:v.cells.toList.length=n)(h1:allOne v.cells.toList=true)(hl:lay vs of v.cells.toList=some r)
  (hk:∀h2,Upd h b (.cells r el op) h2->K (.tuple ⟨[]⟩) ds h2):W1 P fr ops o m ds h K Kp:=by
 subst ho;exact ZCU hg rfl (ZRM ht hx hy hgb hn h1 hl) (hk _ (Upd.mk' h b _))
section
variable {t:TypeId} {α:Type} [DecidableEq α](K:KeyK P t α){m:Mem}{h:Heap}{d:Option Tmp}{ty:TypeId}{pos:String}{af:Array Edge}{gu:Option (Nat×Bool)}
theorem ZBN {tm el:TypeId}{x y:Operand}{b:Nat}{l:List (α×Value)}{k:α}{z v:Value}(hu:P.underlying tm=some (.map t el))(hz:ZA9 P el=some z)(hx:opk h m x=some (.map (some b)))(hm:MapB K h b l)(hy:opk h m y=some (K.enc k))(hv:(lkp k l).getD z=v) :
  Aop P ⟨d,.lookup tm x y false,ty,pos,af,gu⟩ m h v h:=by
 rw[<-hv];exact ZJp K hu hz hx hm.at' hy
theorem ZAZ {tm el:TypeId}{x y:Operand}{b:Nat}{l:List (α×Value)}{k:α}{z v:Value}{q:Bool}(hu:P.underlying tm=some (.map t el))(hz:ZA9 P el=some z)(hx:opk h m x=some (.map (some b)))(hm:MapB K h b l)(hy:opk h m y=some (K.enc k))(hv:(lkp k l).getD z=v)(hq:(lkp k l).isSome=q) :
  Aop P ⟨d,.lookup tm x y true,ty,pos,af,gu⟩ m h (.tuple ⟨[v,.bool q]⟩) h:=by
 rw[<-hv,<-hq];exact ZON K hu hz hx hm.at' hy
end
theorem ZJC {h:Heap}{t:TypeId}{b o:Nat}{v:Value}(ht:One P t)(hc:ZAS h b o=some v):ZFI P t (.pointer (some ⟨b,o,none⟩)) h=some v:=by
 obtain⟨ds,hu,hrw⟩:=ht;unfold ZAS at hc;unfold ZFI;simp only
 split at hc
 ·rename_i vs _ _ hg;simp only[hg,hu,hrw];exact hc
 ·rename_i lim ob hg;simp only[hg,hu,hrw];exact hc
 ·cases hc
theorem ZBp {h:Heap}{t:TypeId}{b o n:Nat}{vs:List Value}(ht:Row P t n)(hc:ZAw h b o n=some vs):ZFI P t (.pointer (some ⟨b,o,none⟩)) h=some (.agg ⟨vs⟩):=by
 obtain⟨ds,hu,hrw,hz⟩:=ht;unfold ZAw at hc;unfold ZFI;simp only
 split at hc
 ·rename_i vs _ _ hg;simp only[hg,hu,hrw,hz,hc]
 ·rename_i lim ob hg;simp only[hg,hu,hrw,hz,hc]
 ·cases hc
theorem ZBT {h:Heap}{m:Mem}{a:Nat}{t:TypeId}{p v:Value}{l:List ResultVar}{vs:List Value}(hm:m a=some p)(ha:ZFI P t p h=some v)(hr:resk P h m l=some vs):resk P h m (.cell a t::l)=some (v::vs):=by
 simp only[resk,hm,ha,hr]
theorem ZRl {h:Heap}{m:Mem}{t:Nat}{v:Value}{l:List ResultVar}{vs:List Value}(hm:m t=some v)(hr:resk P h m l=some vs):resk P h m (.tmp t::l)=some (v::vs):=by
 simp only[resk,hm,hr]
theorem ZAJ {fr:Fr}{ops:Array Oper}{l:List Oper}{m:Mem}{ds:List ADef}{h:Heap}{Q:CQ}{d:Nat}{ty ty':TypeId}{pos pos':String}{af af':Array Edge}{gu gu':Option (Nat×Bool)}{t:TypeId}{z:Value}{y:Operand}{n:Nat}{v:Value}(hg:gk ops.toList m gu=some true)(hlt:Nat.blt d fr.nt=true)(hz0:ZA9 P t=some z)(ht:tsz P t=some n)
  (hg2:gk ops.toList (upd m d (.pointer (some ⟨h.nx,0,none⟩))) gu'=some true) (hy:∀h1,opk h1 (upd m d (.pointer (some ⟨h.nx,0,none⟩))) y=some v) (hzl:z.cells.toList.length=n) (hn:v.cells.toList.length=n) (h1:allOne v.cells.toList=true)
  (hk:∀h1,Ext h h1->WF h1->h1.get h.nx=some (.cells v.cells.toList t false)->h1.nx=h.nx+1->Wo P fr ops l (upd m d (.pointer (some ⟨h.nx,0,none⟩))) ds h1 Q):Wo P fr ops (⟨some d,.alloc t,ty,pos,af,gu⟩ :: ⟨none,.store t (.tmp d) y,ty',pos',af',gu'⟩::l) m ds h Q:=by
 refine ZBC fun hw0=>?_;refine ZA2 hg hlt hz0 fun h2 hE2 hW2 hg3 hn2=>?_;have hl:lay z.cells.toList 0 v.cells.toList=some v.cells.toList:=by
  rw[ZCg (by omega)]
  congr 1
  have:z.cells.toList.drop (0+v.cells.toList.length)=[]:=by
   rw[List.drop_eq_nil_iff];omega
  rw[this];simp
 refine ZAf hg2 ht (upd_same _ _ _) (hy h2) hg3 hn h1 hl fun h4 hU=>?_;refine hk h4 (hU.ext hE2 hw0 (Nat.le_refl _)) (fun b o hb=>?_) hU.at' (by rw[hU.nx];exact hn2)
 by_cases e:b=h.nx
 ·subst e;rw[hU.nx,hn2];exact Nat.lt_succ_self _
 ·rw[hU.other b e] at hb;rw[hU.nx];exact hW2 b o hb
def ZJb {α:Type}(enc:α->Value)(h:Heap)(a:Option Addr)(l:List α):Prop:=ZAi enc h a l/\(l=[]->a=none\/(∃b o,a=some ⟨b,o,some 0⟩)\/∃b o oa,a=some ⟨b,o,oa⟩/\ZAw h b o 0=some [])
theorem ZJb.ext {α:Type}{enc:α->Value}{h h':Heap}{a:Option Addr}{l:List α}(hl:ZJb enc h a l)(he:Ext h h'):ZJb enc h' a l :=
 ⟨hl.1.ext he,fun hn=>(hl.2 hn).imp id fun hx=>hx.imp id fun ⟨b,o,oa,h1,h2⟩=>⟨b,o,oa,h1,he.row h2⟩⟩
theorem ZRG {vs:List Value}{o:Nat}:∀{n:Nat}{l:List Value},l.length=n->(∀i (hi:i<l.length),nth vs (o+i)=some l[i])->o<=vs.length\/0<n->cut vs o n=some l:=by
 intro n l hl hc ho;subst hl;have hle:o+l.length<=vs.length:=by
  rcases Nat.eq_zero_or_pos l.length with g|g
  ·rcases ho with g2|g2 <;> omega
  ·have:=hc (l.length-1) (by omega)
   rw[ZAv] at this;have:=(List.getElem?_eq_some_iff.1 this).1;omega
 unfold cut;have:Nat.ble (Nat.add o l.length) vs.length=true:=Nat.ble_eq_true_of_le hle;rw[this];simp only
 congr 1
 apply List.ext_getElem?;intro i;rw[List.getElem?_take]
 by_cases hi:i<l.length
 ·rw[if_pos hi,List.getElem?_drop,List.getElem?_eq_getElem hi]
  have:=hc i hi
  rwa [ZAv] at this
 ·rw[if_neg hi,List.getElem?_eq_none (by omega)]
theorem ZEQ {h:Heap}{b o:Nat}{l:List Value}(hl:0<l.length)(hc:∀i (hi:i<l.length),ZAS h b (o+i)=some l[i]):ZAw h b o l.length=some l:=by
 have h0:=hc 0 hl;unfold ZAS at h0 hc;unfold ZAw
 cases hg:h.get b with
 | none=>rw[hg] at h0;cases h0
 | some x =>
  rw[hg] at h0 hc
  cases x with
  | cells vs el op=>exact ZRG rfl hc (.inr hl)
  | ro lim ob =>
   simp only at h0 hc ⊢
   cases ob with
   | cells c el fz =>
    have key:∀i (hi:i<l.length),∃y,nth c.toList (o+i)=some y/\okv lim y=true/\nz y=l[i]:=by
     intro i hi;have:=hc i hi;unfold rdo at this;simp only at this
     cases hq:cut c.toList (o+i) 1 with
     | none=>rw[hq] at this;cases this
     | some q =>
      rw[hq] at this;obtain⟨e1,e2⟩:=ZEE hq;cases hall:q.all (okv lim)
      ·simp only[hall] at this;cases this
      ·simp only[hall] at this
       have hlt:o+i<c.toList.length:=by omega
       have hq1:q=[c.toList[o+i]]:=by
        rw[e2,List.drop_eq_getElem_cons hlt];rfl
       subst hq1;simp at this hall;exact⟨c.toList[o+i],by rw[ZAv,List.getElem?_eq_getElem hlt],by simpa using hall,by simpa using this⟩
    unfold rdo;simp only;have hle:o+l.length<=c.toList.length:=by
     obtain⟨y,hy,_⟩:=key (l.length-1) (by omega);rw[ZAv] at hy;have:=(List.getElem?_eq_some_iff.1 hy).1;omega
    have hcut:cut c.toList o l.length=some ((c.toList.drop o).take l.length):=by
     unfold cut;have:Nat.ble (Nat.add o l.length) c.toList.length=true:=Nat.ble_eq_true_of_le hle;rw[this]
    rw[hcut]
    have hget:∀i (hi:i<l.length),((c.toList.drop o).take l.length)[i]?=c.toList[o+i]?:=fun i hi=>by
     rw[List.getElem?_take,if_pos hi,List.getElem?_drop]
    have hlen:((c.toList.drop o).take l.length).length=l.length:=by rw[List.length_take,List.length_drop];omega
    have hall:((c.toList.drop o).take l.length).all (okv lim)=true:=by
     rw[List.all_eq_true];intro y hy;obtain⟨i,hi,e⟩:=List.getElem_of_mem hy;rw[hlen] at hi;obtain⟨y',k1,k2,_⟩:=key i hi;have:=hget i hi;rw[List.getElem?_eq_getElem (by rw[hlen];exact hi)] at this;rw[ZAv] at k1;rw[k1,e] at this;cases this;exact k2
    simp only[hall,Option.some.injEq];apply List.ext_getElem?;intro i;rw[List.getElem?_map]
    by_cases hi:i<l.length
    ·obtain⟨y',k1,_,k3⟩:=key i hi
     rw[hget i hi,List.getElem?_eq_getElem hi];rw[ZAv] at k1;rw[k1];simp[k3]
    ·rw[List.getElem?_eq_none (by rw[hlen];omega),List.getElem?_eq_none (by omega)];rfl
   | _=>simp only[rdo] at h0;cases h0
  | _=>simp only at h0;cases h0
theorem ZJb.src {α:Type}{enc:α->Value}{h:Heap}{a:Option Addr}{l:List α}{cap:Nat}{el tX:TypeId}{dd:TypeDesc}(hl:ZJb enc h a l)(hX:P.underlying tX=some dd)(hni:∀k,dd≠.int k):asrc P el 1 tX (.slice a l.length cap) h=some (l.length,l.map enc):=by
 cases l with
 | nil =>
  rcases hl.2 rfl with rfl|⟨b,o,rfl⟩|⟨b,o,oa,rfl,h2⟩
  ·unfold asrc
   rw[hX];cases dd <;> first|rfl|exact absurd rfl (hni _)
  ·unfold asrc
   rw[hX];cases dd <;> first|rfl|exact absurd rfl (hni _)
  ·exact ZAs hX hni h2
 | cons x l =>
  obtain⟨b,o,oa,rfl,_⟩:=hl.1 0 (by simp);refine ZAs hX hni ?_
  have:=ZEQ (h:=h) (b:=b) (o:=o) (l:=(x::l).map enc) (by simp) (fun i hi=>by
   obtain⟨b',o',oa',e,hc⟩:=hl.1 i (by simpa using hi);cases e;rw[Nat.mul_one] at hc;rw[hc,List.getElem_map])
  rw[Nat.mul_one]
  simpa using this
theorem ZAF.srcAt {α:Type}{enc:α->Value}{h0 h:Heap}{v:Value}{el:TypeId}{l:List α}{n:Nat}(ho:ZAF h0 h v el 1 (l.map enc) n):∃a,v=.slice a l.length l.length/\n=l.length/\ZJb enc h a l:=by
 obtain⟨a,h1,h2,h3⟩:=ho.list;refine⟨a,h1,h2,h3,fun hn=>?_⟩;subst hn
 rcases ho with ⟨g,_,_⟩|⟨b,sp,op,g,g2,_⟩
 ·rw[h1] at g;cases g;exact .inl rfl
 ·rw[h1] at g;cases g
  exact .inr (.inr ⟨b,0,sp,rfl,ZAP g2 rfl⟩)
theorem ZMN {P:Program}{t u:TypeId} {ms}{v:Value}(hu:P.underlying t=some (.interface ms))(n:Nat)(w:World):(Op.equalIn (n+1) t (.iface u v) .nilIface).run P w=.ok false w:=by
 unfold Op.equalIn;simp only[Sem.run_bind,run_underlying hu,Result.andThen_ok,Sem.run_pure]
theorem ZOP {P:Program}{t:TypeId} {ms}(hu:P.underlying t=some (.interface ms))(n:Nat)(w:World):(Op.equalIn (n+1) t .nilIface .nilIface).run P w=.ok true w:=by
 unfold Op.equalIn;simp only[Sem.run_bind,run_underlying hu,Result.andThen_ok,Sem.run_pure]
theorem ZGr {P:Program}{t u:TypeId} {ms}{v:Value}(hu:P.underlying t=some (.interface ms))(w:World):(binOp .neq t (.iface u v) .nilIface).run P w=.ok (.bool true) w:=by
 show (do pure (.bool (!(<-Op.equalIn (9999+1) t (.iface u v) .nilIface))):Sem Value).run P w=_
 simp only[Sem.run_bind,ZMN hu,Result.andThen_ok,Sem.run_pure];rfl
theorem ZNB {P:Program}{t:TypeId} {ms}(hu:P.underlying t=some (.interface ms))(w:World):(binOp .neq t .nilIface .nilIface).run P w=.ok (.bool false) w:=by
 show (do pure (.bool (!(<-Op.equalIn (9999+1) t .nilIface .nilIface))):Sem Value).run P w=_
 simp only[Sem.run_bind,ZOP hu,Result.andThen_ok,Sem.run_pure];rfl
variable {P:Program}{m:Mem}{h:Heap}{d:Option Tmp}{ty:TypeId}{pos:String}{af:Array Edge}{gu:Option (Nat×Bool)}
theorem ZQG {t tz u:TypeId} {ms}{x:Operand}{v:Value}(hu:P.underlying t=some (.interface ms))(hx:opk h m x=some (.iface u v))(fv:flat v=true):Aop P ⟨d,.binOp .neq t x (.const .nilIface) tz,ty,pos,af,gu⟩ m h (.bool true) h :=
 ZCm (a:=.iface u v) (b:=.nilIface) hx rfl (by simpa [flat] using fv) rfl rfl fun w=>by
  have:(eqGuard .neq t x (.const .nilIface) (.iface u v) .nilIface).run P w=.ok () w:=rfl;simp only[Sem.run_bind,this,Result.andThen_ok,ZGr hu]
theorem ZF0 {t tz:TypeId} {ms}{x:Operand}(hu:P.underlying t=some (.interface ms))(hx:opk h m x=some .nilIface):Aop P ⟨d,.binOp .neq t x (.const .nilIface) tz,ty,pos,af,gu⟩ m h (.bool false) h :=
 ZCm (a:=.nilIface) (b:=.nilIface) hx rfl rfl rfl rfl fun w=>by
  have:(eqGuard .neq t x (.const .nilIface) .nilIface .nilIface).run P w=.ok () w:=by
   unfold eqGuard;cases x <;> rfl
  simp only[Sem.run_bind,this,Result.andThen_ok,ZNB hu]
theorem ZNt {fr:Fr}{ds:List ADef}{Q:CQ}{ops:Array Oper}{l:List Oper}{o:Oper}{c:Call}{f:Operand}{g:FuncId}{first cap args:List Value}{R:VS->Prop}{d:Nat}(hg:gk ops.toList m o.guard=some true)(hop:o.op=.call c)(hcal:c.callee=.value f)(hf:opk h m f=some (.func (.func g) ⟨first⟩ ⟨cap⟩))(ha:opkl h m c.args.toList=some args)
  (hb:ZAp P g=true) (hd:o.dst=some d) (hlt:Nat.blt d fr.nt=true) (hv:Sv P g (first++(args++cap)) h R)
  (hk:∀v h1,R (.ret v h1)->Wo P fr ops l (upd m d v) ds h1 Q) (hp:∀v h1,R (.pan v h1)->Q (.pan v) m ds h1):Wo P fr ops (o::l) m ds h Q :=
 ZQx hg hop hcal hf ha hb hv (fun v h1 hR e hs=>⟨putE VT fr.fn d v e,upd m d v,by simp only[fin,put,hd,hlt],hs.put fr.fn d v,hk v h1 hR⟩) hp
variable {P:Program}{fn:Func}{m:Mem}{ds:List ADef}{rc:RC}{R:VS->Prop}
structure ZCr (h0 h:Heap)(rs:List Nat):Prop where
 nd:rs.Nodup
 defd:∀r∈rs,h.get r=some .defd
 new:∀r∈rs,h0.nx<=r
theorem ZCr.nil (h0 h:Heap):ZCr h0 h []:=⟨List.nodup_nil,(fun _ h=>nomatch h),(fun _ h=>nomatch h)⟩
theorem ZCr.keep {h0 h h':Heap}{rs:List Nat}(c:ZCr h0 h rs)(hk:∀r,h.get r=some .defd->h'.get r=some .defd):ZCr h0 h' rs:=⟨c.nd,fun r hr=>hk r (c.defd r hr),c.new⟩
theorem ZCr.ext {h0 h h':Heap}{rs:List Nat}(c:ZCr h0 h rs)(he:Ext h h'):ZCr h0 h' rs:=c.keep fun _=>he.get
theorem ZCr.notin {h0 h:Heap}{rs:List Nat}(c:ZCr h0 h rs){b:Nat}(hb:h.get b≠some .defd):b ∉ rs:=fun hm=>hb (c.defd b hm)
theorem ZCr.cons {h0 h:Heap}{rs:List Nat}{r:Nat}(c:ZCr h0 h rs)(hr:h.get r=some .defd)(hn:h0.nx<=r)(hni:r ∉ rs):ZCr h0 h (r::rs) :=
 ⟨List.nodup_cons.2 ⟨hni,c.nd⟩,fun x hx=>by
  rcases List.mem_cons.1 hx with e|g
  ·rw[e];exact hr
  ·exact c.defd x g,fun x hx=>by
  rcases List.mem_cons.1 hx with e|g
  ·rw[e];exact hn
  ·exact c.new x g⟩
theorem ZCr.ext0 {h0 h:Heap}{rs:List Nat}(c:ZCr h0 h rs)(hE:Ext h0 h)(hw:WF h0):Ext h0 (delL h rs):=hE.delL hw c.new
theorem ZCr.get {h0 h:Heap}{rs:List Nat}(c:ZCr h0 h rs){b:Nat}{vs:List Value}{el:TypeId}{op:Bool}(hg:h.get b=some (.cells vs el op)):(delL h rs).get b=some (.cells vs el op):=by
 rw[ZFn (c.notin (by rw[hg];simp))];exact hg
theorem ZLT {fr:Fr}{h:Heap}{Q:CQ}{f:Operand}{ps:Array Tmp}{asg bd:Code}{g:FuncId}{first cap:List Value}(hrd:fr.rd=none)(hf:opk h m f=some (.func (.func g) ⟨first⟩ ⟨cap⟩))(hb:ZAp P g=true)
  (hv:∀e,Sat m e->∀hL,Ext h hL->WF hL->hL.nx=h.nx+2->hL.get h.nx=some .defd->hL.get (h.nx+1)=some (.loop .ready none fr.fn fr.nt e ps asg bd h.nx) →
   Sv P g (first++(.func (.yield (h.nx+1)) ⟨[]⟩ ⟨[]⟩::cap)) hL (RetP fun _ h'=>ZTS P fr m ds h.nx (h.nx+1) Q h')):Wc P fr (.rangeFunc f ps asg bd) m ds h Q:=by
 refine ZBR fun hw=>ZSd hrd hf hb fun e hs=>?_;have hw1:=hw.add .defd;refine hv e hs _ ((Ext.add hw _).trans (Ext.add hw1 _)) (hw1.add _) rfl ?_ Heap.get_add_same;rw[Heap.get_add_other (h:=h.add .defd) (show h.nx≠h.nx+1 by omega)];exact Heap.get_add_same
variable {P:Program}
theorem N_bs {h:Heap}{e:Env}{m:Mem}{d:Option Tmp}{ty:TypeId}{pos:String}{af:Array Edge}{gu:Option (Nat×Bool)}{t el:TypeId}{sz len:Nat}{z:Value}{ps:Array (Nat×Operand)}{parts:List (Nat×Value)}{cs:List Value}(hs:Sat m e)(hU:P.underlying t=some (.slice el))(hT:tsz P el=some sz)(hZ:ZA9 P el=some z)(hz:Nat.beq z.cells.toList.length sz=true)(h0:Nat.blt 0 sz=true)(hb:Nat.ble (Nat.mul len sz) 16777216=true)
  (hp:opks h m ps.toList=some parts) (hf:Instr.fill (fun i=>some (i*sz,sz)) (rep len z.cells.toList).toArray parts=some ⟨cs⟩):ZEq P ⟨d,.buildSlice t len ps,ty,pos,af,gu⟩ h e=some (.sl len len,.cells cs el false):=by
 unfold ZEq;simp only[ZEM hs hp,ZIf hU hT hZ hz h0 hb hf]
section
variable {fr:Fr}{m:Mem}{ds:List ADef}{h:Heap}{ops:Array Oper}{d:Option Tmp}{ty:TypeId}{pos:String}{af:Array Edge}{gu:Option (Nat×Bool)}{K Kp:Value->List ADef->Heap->Prop}
theorem ZJB {h0:Heap}{o:Oper}{tS tX el:TypeId}{sz by':Nat}{c:Call}{s x:Operand}{v xv:Value}{cs l:List Value}{n k:Nat}{ts:List TypeId}(ho:o=⟨d,.call c,ty,pos,af,gu⟩)(hw0:WF h0)(hw:WF h)(he0:Ext h0 h)(hg:gk ops.toList m gu=some true)(hc:c.callee=.builtin .append)(hargs:c.args=#[s,x])(hat:c.argTypes.toList=tS::tX::ts)(hS:P.underlying tS=some (.slice el))(hE:Elm P el sz by')
  (hs:opk h m s=some v) (hx:opk h m x=some xv) (hF:ZAF h0 h v el sz cs n) (hsrc:asrc P el sz tX xv h=some (k,l)) (hl:l.length=k*sz) (h1:allOne l=true)
  (hb:((n+k)+(n+k) / 4+512)*by'<=281474976710656) (hb2:n+k<281474976710656)
  (hk:∀v' h',ZAF h0 h' v' el sz (cs++l) (n+k)->Ext h0 h'->Keep h h' (ZBM v)->h.nx<=h'.nx->(ZBM v'=ZBM v\/∃b,ZBM v'=some b/\h.nx<=b)->K v' ds h'):W1 P fr ops o m ds h K Kp:=by
 subst ho;obtain⟨v',h',a1,a2,a3,a4,a5,a6⟩:=ZFr (P:=P) hw0 hw he0 hS hE hF hsrc hl h1 hb hb2;refine ZCU hg (by show ZCR c.callee=true;rw[hc];rfl) (ZAe fun e hsat=>?_) (hk v' h' a2 a3 a4 a5 a6)
 show ZEo P _ h e c=_
 unfold ZEo;rw[hc];simp only[hargs,hat,ZCC,ZAM hsat hs,ZAM hsat hx,a1]
end
section
variable {fr:Fr}{m:Mem}{ds:List ADef}{h:Heap}{Q:CQ}{ops:Array Oper}{l:List Oper}{d:Nat}{ty:TypeId}{pos:String}{af:Array Edge}{gu:Option (Nat×Bool)}
theorem ZEN {t el:TypeId}{x y:Operand}{k sz by':Nat}{z:Value}{kx ky:IntKind}{n:Int}(hg:gk ops.toList m gu=some true)(hlt:Nat.blt d fr.nt=true)(ht:P.underlying t=some (.slice el))(hE:Elm P el sz by')(hZ:ZA9 P el=some z)(hx:opk h m x=some (.int kx n))(hy:opk h m y=some (.int ky n))(hk:n=(k:Int))(hb:by'*k<=281474976710656)(hb2:k<281474976710656)
  (hkk:∀h1,Ext h h1->WF h1->h1.get h.nx=some (.cells (rep k z.cells.toList) el false)->h1.nx=h.nx+1->Wo P fr ops l (upd m d (.slice (some ⟨h.nx,0,none⟩) k k)) ds h1 Q):Wo P fr ops (⟨some d,.makeSlice t x y,ty,pos,af,gu⟩::l) m ds h Q :=
 ZBC fun hw=>ZAV hg rfl rfl hlt (ZHm ht hE hZ hx hy hk hb hb2) (hkk _ (Ext.add hw _) (hw.add _) Heap.get_add_same rfl)
end
theorem Exb.cells {S:Nat->Prop}{h h':Heap}(a:Exb S h h'){b:Nat}{vs:List Value}{el:TypeId}{op:Bool}(hn:¬S b)(hg:h.get b=some (.cells vs el op)):h'.get b=some (.cells vs el op):=a.1 b _ hn hg
def CK (h h':Heap):Prop:=∀b vs el op,h.get b=some (.cells vs el op)->h'.get b=some (.cells vs el op)
theorem CK.trans {a b c:Heap}(h1:CK a b)(h2:CK b c):CK a c:=fun x vs el op hx=>h2 _ _ _ _ (h1 _ _ _ _ hx)
theorem CK.of {a b:Heap}(h:Ext a b):CK a b:=fun _ _ _ _ hx=>h.get hx
theorem ZAF.ck {h0 h h':Heap}{v:Value}{el:TypeId}{sz:Nat}{cs:List Value}{n:Nat}(ho:ZAF h0 h v el sz cs n)(he:CK h h'):ZAF h0 h' v el sz cs n:=by
 rcases ho with g|⟨b,sp,op,h1,h2,h3,h4,h5⟩
 ·exact .inl g
 ·exact .inr ⟨b,sp,op,h1,he _ _ _ _ h2,h3,h4,h5⟩
end Go.Dw
namespace Go.Dw
open Go Go.Dx
variable {P:Program}{m:Mem}{h:Heap}{d:Option Tmp}{ty:TypeId}{pos:String}{af:Array Edge}{gu:Option (Nat×Bool)}
theorem ZVS {t tz:TypeId}{x y:Operand}{k:IntKind}{a b:Int}(hx:opk h m x=some (.int k a))(hy:opk h m y=some (.int k b))(hb:b≠0):Aop P ⟨d,.binOp .rem t x y tz,ty,pos,af,gu⟩ m h (.int k (a.tmod b)) h :=
 ZCm hx hy rfl rfl rfl fun w=>by simp only[Sem.run_bind,ZBA,Result.andThen_ok];simp[binOp,Op.intDiv,hb]
theorem ZVm {t tz:TypeId}{x y:Operand}{k k':IntKind}{a b:Int}(hx:opk h m x=some (.int k a))(hy:opk h m y=some (.int k' b))(hb:0<=b):Aop P ⟨d,.binOp .shr t x y tz,ty,pos,af,gu⟩ m h (.int k (a.fdiv (2 ^ (min b.toNat k.bits)))) h :=
 ZCm hx hy rfl rfl rfl fun w=>by
  have h1:¬b<0:=by omega
  have h2:(eqGuard .shr t x y (.int k a) (.int k' b)).run P w=.ok () w:=rfl;simp only[Sem.run_bind,h2,Result.andThen_ok];simp[binOp,Op.shift,h1]
theorem ZVQ {a b:TypeId}{x:Operand}{k k':IntKind}{n:Int}(ha:∃dd,P.underlying a=some dd)(hb:P.underlying b=some (.int k'))(hx:opk h m x=some (.int k n)):Aop P ⟨d,.convert a b x,ty,pos,af,gu⟩ m h (.int k' (k'.wrap n)) h:=by
 obtain⟨dd,ha⟩:=ha;refine ZL9 hx rfl rfl fun ev w h1=>?_;simp only[execOp,h1];have hq:(convert a b (.int k n)).run P w=.ok (.int k' (k'.wrap n)) w:=by
  cases dd <;> simp[convert,run_underlying ha,run_underlying hb,Conv.intToInt]
 simp only[Sem.run_bind,hq,Result.andThen_ok,Sem.run_pure]
theorem ZR7 {fr:Fr}{ops:Array Oper}{o:Oper}{ds:List ADef}{K Kp:Value->List ADef->Heap->Prop}(hw:WF h->W1 P fr ops o m ds h K Kp):W1 P fr ops o m ds h K Kp :=
 ⟨fun k ho e hs ι w a F hr hfr hF Kx Qx T=>(hw (fun _ _ hg=>ZQM hr hg)).w k ho e hs ι w a F hr hfr hF Kx Qx T⟩
variable {P:Program}
theorem ZDQ {vs:List Value}{o n:Nat}(h:o+n<=vs.length):cut vs o n=some ((vs.drop o).take n):=by
 unfold cut;have:Nat.ble (Nat.add o n) vs.length=true:=Nat.ble_eq_true_of_le h;rw[this]
theorem ZAF.at3' {h0 h:Heap}{v:Value}{el:TypeId}{sz:Nat}{cs:List Value}{n:Nat}(ho:ZAF h0 h v el sz cs n){b:Nat}(hb:ZBM v=some b):(∃op,h.get b=some (.cells cs el op))/\h0.nx<=b:=by
 rcases ho with ⟨rfl,_⟩|⟨b',sp,op,rfl,h2,_,h4,_⟩
 ·cases hb
 ·cases hb;exact⟨⟨op,h2⟩,h4⟩
section
variable {h0 h:Heap}{v:Value}{el t tX:TypeId}{cs:List Value}{n k:Nat}{dd:TypeDesc}
end
section
variable {h0 h:Heap}{v:Value}{el t tX:TypeId}{cs:List Value}{n k:Nat}{dd:TypeDesc}{ki:IntKind}
end
variable {P:Program}
structure It where
 S:Nat->Prop
 p:Heap->Prop
 loc:∀{h h':Heap},(∀c o,S c->h.get c=some o->h'.get c=some o)->p h->p h'
 ex:∀{h:Heap} {c:Nat},p h->S c->∃o,h.get c=some o
structure Own (h0 h:Heap)(l:List It):Prop where
 has:∀x∈l,x.p h
 lo:∀x∈l,∀c,x.S c->h0.nx<=c
 ap:l.Pairwise fun x y=>∀c,x.S c->¬y.S c
section
variable {h0 h h':Heap}{l l':List It}{x y z u:It}
theorem Own.nil (h0 h:Heap):Own h0 h []:=⟨fun _ hx=>(List.not_mem_nil hx).elim,fun _ hx=>(List.not_mem_nil hx).elim,.nil⟩
theorem Own.ext (hO:Own h0 h l)(he:Ext h h'):Own h0 h' l:=⟨fun x hx=>x.loc (fun _ _ _ hg=>he.get hg) (hO.has x hx),hO.lo,hO.ap⟩
theorem Own.tail (hO:Own h0 h (x::l)):Own h0 h l:=⟨fun y hy=>hO.has y (List.mem_cons_of_mem _ hy),fun y hy=>hO.lo y (List.mem_cons_of_mem _ hy),(List.pairwise_cons.1 hO.ap).2⟩
theorem Own.sub (hO:Own h0 h l)(hs:l'.Sublist l):Own h0 h l':=⟨fun x hx=>hO.has x (hs.subset hx),fun x hx=>hO.lo x (hs.subset hx),hO.ap.sublist hs⟩
theorem Own.perm (hO:Own h0 h l)(hp:l.Perm l'):Own h0 h l' :=
 ⟨fun x hx=>hO.has x (hp.symm.subset hx),fun x hx=>hO.lo x (hp.symm.subset hx),hp.pairwise hO.ap fun h c hy hx=>h c hx hy⟩
theorem Own.p1 (hO:Own h0 h (x::l)):x.p h:=hO.has x List.mem_cons_self
theorem Own.p2 (hO:Own h0 h (x::y::l)):y.p h:=hO.tail.p1
theorem Own.p3 (hO:Own h0 h (x::y::z::l)):z.p h:=hO.tail.tail.p1
theorem Own.p4 (hO:Own h0 h (x::y::z::u::l)):u.p h:=hO.tail.tail.tail.p1
theorem Own.up2 (hO:Own h0 h (x::y::l)):Own h0 h (y::x::l):=hO.perm (List.Perm.swap _ _ _)
theorem Own.up3 (hO:Own h0 h (x::y::z::l)):Own h0 h (z::x::y::l):=hO.perm (((List.Perm.swap _ _ _).cons _).trans (List.Perm.swap _ _ _))
theorem Own.up4 (hO:Own h0 h (x::y::z::u::l)):Own h0 h (u::x::y::z::l):=hO.perm ((((List.Perm.swap _ _ _).cons _).cons _).trans (((List.Perm.swap _ _ _).cons _).trans (List.Perm.swap _ _ _)))
theorem Own.dn2 (hO:Own h0 h (x::y::l)):Own h0 h (y::x::l):=hO.up2
theorem Own.dn3 (hO:Own h0 h (x::y::z::l)):Own h0 h (y::z::x::l):=hO.up3.up3
theorem Own.put (hO:Own h0 h (x::l))(hw:WF h)(hn:h0.nx<=h.nx)(hX:Exb x.S h h')(hy:y.p h')(hs:∀c,y.S c->x.S c\/h.nx<=c):Own h0 h' (y::l):=by
 have h1:=List.pairwise_cons.1 hO.ap;refine⟨fun z hz=>?_,fun z hz c hc=>?_,List.pairwise_cons.2 ⟨fun z hz c hc hzc=>?_,h1.2⟩⟩
 ·rcases List.mem_cons.1 hz with rfl|hz
  ·exact hy
  ·exact z.loc (fun c o hc hg=>hX.get (fun hxc=>h1.1 z hz c hxc hc) hg) (hO.has z (List.mem_cons_of_mem _ hz))
 ·rcases List.mem_cons.1 hz with rfl|hz
  ·rcases hs c hc with g|g
   ·exact hO.lo x List.mem_cons_self c g
   ·exact Nat.le_trans hn g
  ·exact hO.lo z (List.mem_cons_of_mem _ hz) c hc
 ·rcases hs c hc with g|g
  ·exact h1.1 z hz c g hzc
  ·obtain⟨o,ho⟩:=z.ex (hO.has z (List.mem_cons_of_mem _ hz)) hzc
   have:=hw _ _ ho;omega
theorem Own.new (hO:Own h0 h l)(hw:WF h)(hn:h0.nx<=h.nx)(he:Ext h h')(hy:y.p h')(hs:∀c,y.S c->h.nx<=c):Own h0 h' (y::l):=by
 refine⟨fun z hz=>?_,fun z hz c hc=>?_,List.pairwise_cons.2 ⟨fun z hz c hc hzc=>?_,hO.ap⟩⟩
 ·rcases List.mem_cons.1 hz with rfl|hz
  ·exact hy
  ·exact z.loc (fun _ _ _ hg=>he.get hg) (hO.has z hz)
 ·rcases List.mem_cons.1 hz with rfl|hz
  ·exact Nat.le_trans hn (hs c hc)
  ·exact hO.lo z hz c hc
 ·obtain⟨o,ho⟩:=z.ex (hO.has z hz) hzc
  have h1:=hs c hc;have:=hw _ _ ho;omega
theorem Own.as (hO:Own h0 h (x::l))(hy:x.p h->y.p h)(hs:∀c,y.S c->x.S c):Own h0 h (y::l):=by
 have h1:=List.pairwise_cons.1 hO.ap;refine⟨fun z hz=>?_,fun z hz c hc=>?_,List.pairwise_cons.2 ⟨fun z hz c hc hzc=>h1.1 z hz c (hs c hc) hzc,h1.2⟩⟩
 ·rcases List.mem_cons.1 hz with rfl|hz
  ·exact hy hO.p1
  ·exact hO.has z (List.mem_cons_of_mem _ hz)
 ·rcases List.mem_cons.1 hz with rfl|hz
  ·exact hO.lo x List.mem_cons_self c (hs c hc)
  ·exact hO.lo z (List.mem_cons_of_mem _ hz) c hc
theorem Own.merge (hO:Own h0 h (x::y::l))(hz:x.p h->y.p h->z.p h)(hs:∀c,z.S c->x.S c\/y.S c):Own h0 h (z::l):=by
 have h1:=List.pairwise_cons.1 hO.ap;have h2:=List.pairwise_cons.1 h1.2;refine⟨fun u hu=>?_,fun u hu c hc=>?_,List.pairwise_cons.2 ⟨fun u hu c hc huc=>?_,h2.2⟩⟩
 ·rcases List.mem_cons.1 hu with rfl|hu
  ·exact hz hO.p1 hO.p2
  ·exact hO.has u (List.mem_cons_of_mem _ (List.mem_cons_of_mem _ hu))
 ·rcases List.mem_cons.1 hu with rfl|hu
  ·rcases hs c hc with g|g
   ·exact hO.lo x List.mem_cons_self c g
   ·exact hO.lo y (List.mem_cons_of_mem _ List.mem_cons_self) c g
  ·exact hO.lo u (List.mem_cons_of_mem _ (List.mem_cons_of_mem _ hu)) c hc
 ·rcases hs c hc with g|g
  ·exact h1.1 u (List.mem_cons_of_mem _ hu) c g huc
  ·exact h2.1 u hu c g huc
theorem Own.grows (hO:Own h0 h (x::l))(hX:Exb x.S h h')(he:Ext h0 h)(hw:WF h0):Ext h0 h':=hX.ext he hw fun c hc=>hO.lo x List.mem_cons_self c hc
end
theorem ZAF.got {h0 h:Heap}{v:Value}{el:TypeId}{sz:Nat}{cs:List Value}{n:Nat}(ho:ZAF h0 h v el sz cs n){b:Nat}(hb:ZBM v=some b):∃op,h.get b=some (.cells cs el op):=by
 rcases ho with ⟨rfl,_⟩|⟨b',sp,op,rfl,h2,_⟩
 ·cases hb
 ·cases hb;exact⟨op,h2⟩
def slI (h0:Heap)(v:Value)(el:TypeId)(sz:Nat)(cs:List Value)(n:Nat):It where
 S:=fun c=>ZBM v=some c
 p:=fun h=>ZAF h0 h v el sz cs n
 loc:=fun hk hp=>hp.keep fun b o hb hg=>hk b o hb hg
 ex:=fun hp hc=>by obtain⟨op,h1⟩:=hp.got hc;exact⟨_,h1⟩
def ceI (b:Nat)(vs:List Value)(el:TypeId)(op:Bool):It where
 S:=fun c=>c=b
 p:=fun h=>h.get b=some (.cells vs el op)
 loc:=fun hk hp=>hk _ _ rfl hp
 ex:=fun hp hc=>⟨_,hc ▸ hp⟩
def mapI {t:TypeId} {α:Type} [DecidableEq α](K:KeyK P t α)(b:Nat)(l:List (α×Value)):It where
 S:=fun c=>c=b
 p:=fun h=>MapB K h b l
 loc:=fun hk hp=>hp.some K fun o ho=>hk _ _ rfl ho
 ex:=fun hp hc=>by obtain⟨es,c,h1,_⟩:=hp;exact⟨_,hc ▸ h1⟩
section
variable {h0 h h':Heap}{l:List It}{v v':Value}{el:TypeId}{sz:Nat}{cs cs':List Value}{n n':Nat}{b:Nat}{vs r:List Value}{op:Bool}
theorem Exb.keep (hK:Keep h h' (ZBM v))(hn:h.nx<=h'.nx)(hg:h'.gl=h.gl):Exb (slI h0 v el sz cs n).S h h':=⟨fun b o hb hg=>hK b o (fun e=>hb e) hg,hn,hg⟩
theorem Exb.ofUpd {o:AO}(hU:Upd h b o h'):Exb (fun c=>c=b) h h':=⟨fun c _ hc hg=>(hU.other c hc).trans hg,Nat.le_of_eq hU.nx.symm,hU.gl⟩
theorem Own.nilSl (hO:Own h0 h l)(el:TypeId)(sz:Nat):Own h0 h (slI h0 (.slice none 0 0) el sz [] 0::l):=by
 have hno:∀c,¬(slI h0 (.slice none 0 0) el sz [] 0).S c:=fun c hc=>by cases (show ZBM (.slice none 0 0)=some c from hc)
 refine⟨fun z hz=>?_,fun z hz c hc=>?_,List.pairwise_cons.2 ⟨fun z _ c hc=>(hno c hc).elim,hO.ap⟩⟩
 ·rcases List.mem_cons.1 hz with rfl|hz
  ·exact ZAF.nil _ _ _ _
  ·exact hO.has z hz
 ·rcases List.mem_cons.1 hz with rfl|hz
  ·exact (hno c hc).elim
  ·exact hO.lo z hz c hc
theorem Own.newSl (hO:Own h0 h l)(hw:WF h)(hn:h0.nx<=h.nx)(he:Ext h h')(hF:ZAF h h' v el sz cs n):Own h0 h' (slI h0 v el sz cs n::l) :=
 hO.new hw hn he (hF.base hn) fun c hc=>by
  rcases hF with ⟨rfl,_⟩|⟨b',sp,op,rfl,_,_,h4,_⟩
  ·cases (show ZBM (.slice none 0 0)=some c from hc)
  ·cases (show some b'=some c from hc);exact h4
theorem Own.newCe (hO:Own h0 h l)(hw:WF h)(hn:h0.nx<=h.nx)(he:Ext h h')(hg:h'.get b=some (.cells vs el op))(hb:h.nx<=b):Own h0 h' (ceI b vs el op::l) :=
 hO.new hw hn he hg fun c hc=>by rw[show c=b from hc];exact hb
theorem Own.newMap {t:TypeId} {α:Type} [DecidableEq α]{K:KeyK P t α}(hO:Own h0 h l)(hw:WF h)(hn:h0.nx<=h.nx)(he:Ext h h')(hg:h'.get b=some (.map [] 0))(hb:h.nx<=b):Own h0 h' (mapI K b []::l) :=
 hO.new hw hn he (MapB.new K hg) fun c hc=>by rw[show c=b from hc];exact hb
theorem Own.putSl (hO:Own h0 h (slI h0 v el sz cs n::l))(hw:WF h)(he0:Ext h0 h)(hF:ZAF h0 h' v' el sz cs' n')(he:Ext h0 h')(hK:Keep h h' (ZBM v))(hnx:h.nx<=h'.nx)(hv:ZBM v'=ZBM v\/∃b,ZBM v'=some b/\h.nx<=b):Own h0 h' (slI h0 v' el sz cs' n'::l) :=
 hO.put hw he0.2.1 (Exb.keep hK hnx (he.2.2.trans he0.2.2.symm)) hF fun c (hc:ZBM v'=some c)=>by
  rcases hv with e|⟨b,e,hb⟩
  ·exact .inl (by show ZBM v=some c;rw[<-e];exact hc)
  ·rw[e] at hc;cases hc;exact .inr hb
theorem Own.putCe (hO:Own h0 h (ceI b vs el op::l))(hw:WF h)(he0:Ext h0 h)(hw0:WF h0)(hU:Upd h b (.cells r el op) h'):Own h0 h' (ceI b r el op::l)/\Ext h0 h' :=
 ⟨hO.put hw he0.2.1 (Exb.ofUpd hU) hU.at' fun _ hc=>.inl hc,hO.grows (Exb.ofUpd hU) he0 hw0⟩
end
section
variable {fr:Fr}{m:Mem}{ds:List ADef}{h:Heap}{Q:CQ}{ops:Array Oper}{lo:List Oper}{d:Nat}{ty:TypeId}{pos:String}{af:Array Edge}{gu:Option (Nat×Bool)}
theorem ZAo {h0:Heap}{I:List It}{tS tX el:TypeId}{sz by':Nat}{c:Call}{s x:Operand}{v xv:Value}{cs l:List Value}{n k:Nat}{ts:List TypeId}(hw0:WF h0)(he0:Ext h0 h)(hg:gk ops.toList m gu=some true)(hlt:Nat.blt d fr.nt=true)(hc:c.callee=.builtin .append)(hargs:c.args=#[s,x])(hat:c.argTypes.toList=tS::tX::ts)(hS:P.underlying tS=some (.slice el))(hE:Elm P el sz by')
  (hs:opk h m s=some v) (hx:opk h m x=some xv) (hO:Own h0 h (slI h0 v el sz cs n::I)) (hsrc:asrc P el sz tX xv h=some (k,l)) (hl:l.length=k*sz) (h1:allOne l=true)
  (hb:((n+k)+(n+k) / 4+512)*by'<=281474976710656) (hb2:n+k<281474976710656)
  (hk:∀v' h',WF h'->Own h0 h' (slI h0 v' el sz (cs++l) (n+k)::I)->Ext h0 h'->Wo P fr ops lo (upd m d v') ds h' Q):Wo P fr ops (⟨some d,.call c,ty,pos,af,gu⟩::lo) m ds h Q :=
 ZBC fun hw=>ZGV hw0 he0 hg hlt hc hargs hat hS hE hs hx hO.p1 hsrc hl h1 hb hb2 fun v' h' hF hE' hK hx' hv=>ZBC fun hw'=>hk v' h' hw' (hO.putSl hw he0 hF hE' hK hx' hv) hE'
theorem ZB6 {h0:Heap}{I:List It}{t:TypeId}{x y:Operand}{b o n:Nat}{v:Value}{vs r:List Value}{el:TypeId}{op:Bool}(hw0:WF h0)(he0:Ext h0 h)(hg:gk ops.toList m gu=some true)(ht:tsz P t=some n)(hx:opk h m x=some (.pointer (some ⟨b,o,none⟩)))(hy:opk h m y=some v)(hO:Own h0 h (ceI b vs el op::I))(hn:v.cells.toList.length=n)(h1:allOne v.cells.toList=true)(hl:lay vs o v.cells.toList=some r)
  (hk:∀h1,WF h1->Own h0 h1 (ceI b r el op::I)->Ext h0 h1->Wo P fr ops lo m ds h1 Q):Wo P fr ops (⟨none,.store t x y,ty,pos,af,gu⟩::lo) m ds h Q :=
 ZBC fun hw=>ZAf hg ht hx hy hO.p1 hn h1 hl fun h1 hU=>ZBC fun hw1=>hk h1 hw1 (hO.putCe hw he0 hw0 hU).1 (hO.putCe hw he0 hw0 hU).2
variable {t:TypeId} {α:Type} [DecidableEq α](K:KeyK P t α)
theorem ZAy {h0:Heap}{I:List It}{tm el:TypeId}{x y z:Operand}{b:Nat}{l:List (α×Value)}{k:α}{v:Value}(hw0:WF h0)(he0:Ext h0 h)(hg:gk ops.toList m gu=some true)(hu:P.underlying tm=some (.map t el))(hx:opk h m x=some (.map (some b)))(hO:Own h0 h (mapI K b l::I))(hy:opk h m y=some (K.enc k))(hz:opk h m z=some v)
  (hk:∀h1,WF h1->Own h0 h1 (mapI K b (setK k v l)::I)->Ext h0 h1->Wo P fr ops lo m ds h1 Q):Wo P fr ops (⟨none,.mapUpdate tm x y z,ty,pos,af,gu⟩::lo) m ds h Q :=
 ZBC fun hw=>ZJk K hg hu hx hO.p1 hy hz fun h1 o hU hm=>ZBC fun hw1=>hk h1 hw1 (hO.put hw he0.2.1 (Exb.ofUpd hU) hm fun _ hc=>.inl hc) (hO.grows (Exb.ofUpd hU) he0 hw0)
end
section
variable {fr:Fr}{m:Mem}{ds:List ADef}{h:Heap}{ops:Array Oper}{d:Option Tmp}{ty:TypeId}{pos:String}{af:Array Edge}{gu:Option (Nat×Bool)}{K Kp:Value->List ADef->Heap->Prop}
theorem ZCh {h0:Heap}{I:List It}{o:Oper}{tS tX el:TypeId}{sz by':Nat}{c:Call}{s x:Operand}{v xv:Value}{cs l:List Value}{n k:Nat}{ts:List TypeId}(ho:o=⟨d,.call c,ty,pos,af,gu⟩)(hw0:WF h0)(he0:Ext h0 h)(hg:gk ops.toList m gu=some true)(hc:c.callee=.builtin .append)(hargs:c.args=#[s,x])(hat:c.argTypes.toList=tS::tX::ts)(hS:P.underlying tS=some (.slice el))(hE:Elm P el sz by')
  (hs:opk h m s=some v) (hx:opk h m x=some xv) (hO:Own h0 h (slI h0 v el sz cs n::I)) (hsrc:asrc P el sz tX xv h=some (k,l)) (hl:l.length=k*sz) (h1:allOne l=true)
  (hb:((n+k)+(n+k) / 4+512)*by'<=281474976710656) (hb2:n+k<281474976710656)
  (hk:∀v' h',Own h0 h' (slI h0 v' el sz (cs++l) (n+k)::I)->Ext h0 h'->K v' ds h'):W1 P fr ops o m ds h K Kp :=
 ZR7 fun hw=>ZJB ho hw0 hw he0 hg hc hargs hat hS hE hs hx hO.p1 hsrc hl h1 hb hb2 fun v' h' hF hE' hK hx' hv=>hk v' h' (hO.putSl hw he0 hF hE' hK hx' hv) hE'
theorem ZHl {h0:Heap}{I:List It}{o:Oper}{t:TypeId}{x y:Operand}{b of n:Nat}{v:Value}{vs r:List Value}{el:TypeId}{op:Bool}(ho:o=⟨d,.store t x y,ty,pos,af,gu⟩)(hw0:WF h0)(he0:Ext h0 h)(hg:gk ops.toList m gu=some true)(ht:tsz P t=some n)(hx:opk h m x=some (.pointer (some ⟨b,of,none⟩)))(hy:opk h m y=some v)(hO:Own h0 h (ceI b vs el op::I))(hn:v.cells.toList.length=n)(h1:allOne v.cells.toList=true)(hl:lay vs of v.cells.toList=some r)
  (hk:∀h2,Own h0 h2 (ceI b r el op::I)->Ext h0 h2->K (.tuple ⟨[]⟩) ds h2):W1 P fr ops o m ds h K Kp :=
 ZR7 fun hw=>ZA1 ho hg ht hx hy hO.p1 hn h1 hl fun h2 hU=>hk h2 (hO.putCe hw he0 hw0 hU).1 (hO.putCe hw he0 hw0 hU).2
end
variable {P:Program}
theorem ZDe {ι:Iota}{h:Heap}{w w':World}{v v':Value}(hr:HR ι h w.heap)(hv:VR ι v v')(u:ZO2 w w'):ZFA ι h w (.ret v h) (.returned v') w':=⟨ι,v',rfl,hv,u.hr hr,u.adv⟩
theorem ZK4 {ι:Iota}{h:Heap}{w w':World}{b:Nat}{bi:BI}{vs vs2:List Value}{el:TypeId}{op:Bool}{c c2:Array Value}{r r':Value}(hr:HR ι h w.heap)(hg:h.get b=some (.cells vs el op))(hi:ι b=some bi)(hc:w.heap[bi.blk]?=some (.cells c el (0,0)))
  (hs:c2.size=c.size) (hl:vs2.length=vs.length) (hv:VRL ι vs2 (c2.toList.take vs2.length)) (hrv:VR ι r r') (hz:w.heap.size<=w'.heap.size) (hw:∀k,k<w.heap.size->w'.heap[k]?=(w.heap.setIfInBounds bi.blk (.cells c2 el (0,0)))[k]?) (hos:w'.os=w.os) (hout:w'.output=w.output) (hdr:w'.tape=w.tape/\w.drawn<=w'.drawn:=by first|exact⟨rfl,Nat.le_refl _⟩|exact⟨rfl,Nat.le_add_right _ _⟩) :
  ZFA ι h w (.ret r (h.set b (.cells vs2 el op))) (.returned r') w':=by
 obtain⟨bi',o',i1,i2,i3⟩:=hr.obj b _ hg;rw[hi] at i1;cases i1;rw[hc] at i2;cases i2;simp only[OR] at i3;obtain⟨_,_,j1,j2,j3,_⟩:=i3
 obtain⟨k1,k2⟩:=hr.set (o2:=.cells vs2 el op) (o2':=.cells c2 el (0,0)) hg hi (by
  simp only[OR];exact⟨trivial,trivial,by rw[hs];exact j1,by rw[hl,hs];exact j2,fun h=>by rw[hl,hs];exact j3 h,hv⟩)
 have u:ZO2 { w with heap:=w.heap.setIfInBounds bi.blk (.cells c2 el (0,0)) } w':=⟨⟨by simpa using hz,fun k hk=>hw k (by simpa using hk),hos,hout⟩,hdr⟩
 exact⟨ι,r',rfl,hrv,u.hr k1,k2.trans u.adv⟩
theorem ZAF.lies {ι:Iota}{h0 h:Heap}{w:World}{v v':Value}{el:TypeId}{sz n:Nat}{cs:List Value}(hF:ZAF h0 h v el sz cs n)(hr:HR ι h w.heap)(hv:VR ι v v')(hsz:0<sz) :
  (v=.slice none 0 0/\v'=.slice none 0 0/\cs=[]/\n=0)\/∃b bi op cap c,ZBM v=some b/\h.get b=some (.cells cs el op)/\ι b=some bi/\v'=.slice (some ⟨bi.blk,0,none⟩) n cap/\w.heap[bi.blk]?=some (.cells c el (0,0))/\cs.length<=c.size/\VRL ι cs (c.toList.take cs.length)/\cs.length=n*sz ∧
   ∀(h':Heap) (cs':List Value) (op':Bool),cs'.length=cs.length->h'.get b=some (.cells cs' el op')->ZAF h0 h' v el sz cs' n:=by
 rcases hF with ⟨rfl,rfl,rfl⟩|⟨b,sp,op,rfl,g2,g3,g4,g5⟩
 ·cases hv with
  | sl0=>exact .inl ⟨rfl,rfl,rfl,rfl⟩
 ·obtain⟨bi,o',i1,i2,i3⟩:=hr.obj b _ g2
  have key:∃cap,v'=.slice (some ⟨bi.blk,0,none⟩) n cap:=by
   cases hv with
   | sl h=>rw[i1] at h;cases h;exact⟨_,rfl⟩
   | slo h _ _=>rw[i1] at h;cases h;exact⟨_,rfl⟩
   | sle b a c=>rcases g5 with g|g <;> simp at g;omega
  obtain⟨cap,rfl⟩:=key
  cases o' with
  | cells c e fz =>
   simp only[OR] at i3;obtain⟨rfl,rfl,j1,j2,j3,j4⟩:=i3;exact .inr ⟨b,bi,op,cap,c,rfl,g2,i1,rfl,i2,j2,j4,g3,fun h' cs' op' hl hg=>.inr ⟨b,sp,op',rfl,hg,by rw[hl];exact g3,g4,g5⟩⟩
  | _=>simp only[OR] at i3
variable {P:Program}
section
variable {h0 h h':Heap}{A B l:List It}{x y:It}
theorem Own.mid (hO:Own h0 h (A++x::B)):Own h0 h (x::(A++B)):=hO.perm List.perm_middle
theorem ZAF.blk {v:Value}{el:TypeId}{sz n:Nat}{cs:List Value}(hF:ZAF h0 h v el sz cs n)(hn:0<n):∃b sp op,v=.slice (some ⟨b,0,sp⟩) n n/\h.get b=some (.cells cs el op)/\cs.length=n*sz/\h0.nx<=b:=by
 rcases hF with ⟨_,_,rfl⟩|⟨b,sp,op,e,h2,h3,h4,_⟩
 ·omega
 ·exact⟨b,sp,op,e,h2,h3,h4⟩
end
section
variable {h0 h:Heap}{v:Value}{el t tX:TypeId}{cs:List Value}{n k:Nat}{dd:TypeDesc}{ki:IntKind}
end
theorem ZUB {fr:Fr}{m:Mem}{ds:List ADef}{h:Heap}{Q Q':CQ}{a b c:Code}(h1:Wc P fr a m ds h (Then P fr b Q'))(h2:∀x m ds h,Q' x m ds h->Then P fr c Q x m ds h):Wc P fr (.seq a (.seq b c)) m ds h Q :=
 ZED (h1.mono fun x _ _ _ hq=>by
  cases x with
  | normal=>exact ZED (hq.mono h2)
  | _=>exact h2 _ _ _ _ hq)
theorem ZAu {fr:Fr}{ops:Array Oper}{o:Oper}{m:Mem}{ds:List ADef}{h:Heap}{K Kp:Value->List ADef->Heap->Prop}(hW:W1 P fr ops o m ds h (fun v ds1 h1=>WF h1->K v ds1 h1) Kp):W1 P fr ops o m ds h K Kp :=
 ⟨fun k ho e hs ι w a F hr hfr hF Kx Qx T=>hW.w k ho e hs ι w a F hr hfr hF Kx Qx ⟨fun v ds1 h1 hK ι' v' a' w' e1 e2 e3 hr' e5=>T.normal v ds1 h1 (hK fun _ _ hg=>ZQM hr' hg) ι' v' a' w' e1 e2 e3 hr' e5,T.pan⟩⟩
structure Bx (B:Prop):Prop where
 out:B
theorem zz {A B:Prop}(hk:B)(h:Bx B->A:=by
 intro hk
 repeat (first|(show Wc _ _ _ _ _ _ _;first|refine ZED ?_|refine ZBs ?_|refine ZN8 rfl ?_|refine ZFR rfl ?_|refine ZNy ?_|refine ZIL ?_|refine ZMW ?_|refine ZNU ?_)|(show Wo _ _ _ [] _ _ _ _;refine ZD7 ?_)|(show Wo _ _ _ (_::_) _ _ _ _;first|(show Wo _ _ _ (⟨_,_,_,_,_,some _⟩::_) _ _ _ _;refine ZTY rfl rfl rfl ?_)|(show Wo _ _ _ (⟨_,_,_,_,_,some _⟩::_) _ _ _ _;refine ZQa rfl rfl ?_)|(show Wo _ _ _ (⟨_,.move _,_,_,_,_⟩::_) _ _ _ _;refine ZAV rfl rfl rfl rfl (ZDW rfl) ?_)|(show Wo _ _ _ (⟨_,.assign _,_,_,_,_⟩::_) _ _ _ _;refine ZAV rfl rfl rfl rfl (ZAj rfl) ?_)|(show Wo _ _ _ (⟨_,.pick _ _ _,_,_,_,_⟩::_) _ _ _ _;refine ZAV rfl rfl rfl rfl (ZKH rfl rfl) ?_)|(show Wo _ _ _ (⟨_,.pick _ _ _,_,_,_,_⟩::_) _ _ _ _;refine ZAV rfl rfl rfl rfl (ZKG rfl rfl) ?_)|(show Wo _ _ _ (⟨_,.unOp .not _ _,_,_,_,_⟩::_) _ _ _ _;refine ZAV rfl rfl rfl rfl (ZTF rfl) ?_)|(show Wo _ _ _ (⟨_,.makeFunc _ _ _,_,_,_,_⟩::_) _ _ _ _;refine ZAV rfl rfl rfl rfl (ZUl rfl rfl) ?_)|(show Wo _ _ _ (⟨_,.extract _ _,_,_,_,_⟩::_) _ _ _ _;refine ZAV rfl rfl rfl rfl (ZKU rfl rfl) ?_)|(show Wo _ _ _ (⟨_,.fieldAddr _ _ _,_,_,_,_⟩::_) _ _ _ _;refine ZAV rfl rfl rfl rfl (ZCI Fof.h rfl) ?_)|(show Wo _ _ _ (⟨_,.load _ _,_,_,_,_⟩::_) _ _ _ _;refine ZAV rfl rfl rfl rfl (A_ld OneC.h rfl) ?_)|(show Wo _ _ _ (⟨_,.load _ _,_,_,_,_⟩::_) _ _ _ _;refine ZAV rfl rfl rfl rfl (ZPV RowC.h rfl) ?_)|(show Wo _ _ _ (⟨_,.call ⟨.builtin .len,_,_⟩,_,_,_,_⟩::_) _ _ _ _;refine ZAV rfl rfl rfl rfl (ZRJ rfl rfl rfl Und.h rfl) ?_)|(show Wo _ _ _ (⟨_,.call ⟨.builtin .len,_,_⟩,_,_,_,_⟩::_) _ _ _ _;refine ZAV rfl rfl rfl rfl (ZJ3 rfl rfl rfl Und.h rfl) ?_)|(show Wo _ _ _ (⟨_,.binOp .add _ _ _ _,_,_,_,_⟩::_) _ _ _ _;refine ZAV rfl rfl rfl rfl (A_ad rfl rfl) ?_)|(show Wo _ _ _ (⟨_,.binOp .sub _ _ _ _,_,_,_,_⟩::_) _ _ _ _;refine ZAV rfl rfl rfl rfl (A_sb rfl rfl) ?_)))
 exact hk.out):A:=h ⟨hk⟩
theorem z_m {A B:Prop}(hk:B)(h:Bx B->A:=by
 intro hk;refine ZAB rfl rfl rfl rfl rfl (fun _=>ZDW rfl) ?_;exact hk.out):A:=h ⟨hk⟩
theorem g_m {A B:Prop}(hk:B)(h:Bx B->A:=by
 intro hk
 first|refine ZAT rfl rfl rfl rfl ?_|refine ZAB rfl rfl rfl rfl rfl (fun _=>ZDW rfl) ?_
 exact hk.out):A:=h ⟨hk⟩
theorem z_p {A B:Prop}(hk:B)(h:Bx B->A:=by
 intro hk
 first|refine ZAB rfl rfl rfl rfl rfl (fun _=>ZKH rfl rfl) ?_|refine ZAB rfl rfl rfl rfl rfl (fun _=>ZKG rfl rfl) ?_
 exact hk.out):A:=h ⟨hk⟩
theorem g_p {A B:Prop}(hk:B)(h:Bx B->A:=by
 intro hk
 first|refine ZAT rfl rfl rfl rfl ?_|refine ZAB rfl rfl rfl rfl rfl (fun _=>ZKH rfl rfl) ?_|refine ZAB rfl rfl rfl rfl rfl (fun _=>ZKG rfl rfl) ?_
 exact hk.out):A:=h ⟨hk⟩
theorem z_n {A B:Prop}(hk:B)(h:Bx B->A:=by
 intro hk;refine ZAB rfl rfl rfl rfl rfl (fun _=>ZTF rfl) ?_;exact hk.out):A:=h ⟨hk⟩
theorem g_n {A B:Prop}(hk:B)(h:Bx B->A:=by
 intro hk
 first|refine ZAT rfl rfl rfl rfl ?_|refine ZAB rfl rfl rfl rfl rfl (fun _=>ZTF rfl) ?_
 exact hk.out):A:=h ⟨hk⟩
theorem z_f {A B:Prop}(hk:B)(h:Bx B->A:=by
 intro hk;refine ZAB rfl rfl rfl rfl rfl (fun _=>ZCI Fof.h rfl) ?_;exact hk.out):A:=h ⟨hk⟩
theorem g_f {A B:Prop}(hk:B)(h:Bx B->A:=by
 intro hk
 first|refine ZAT rfl rfl rfl rfl ?_|refine ZAB rfl rfl rfl rfl rfl (fun _=>ZCI Fof.h rfl) ?_
 exact hk.out):A:=h ⟨hk⟩
theorem z_l {A B:Prop}(hk:B)(h:Bx B->A:=by
 intro hk;refine ZAB rfl rfl rfl rfl rfl (fun _=>A_ld OneC.h rfl) ?_;exact hk.out):A:=h ⟨hk⟩
theorem g_l {A B:Prop}(hk:B)(h:Bx B->A:=by
 intro hk
 first|refine ZAT rfl rfl rfl rfl ?_|refine ZAB rfl rfl rfl rfl rfl (fun _=>A_ld OneC.h rfl) ?_
 exact hk.out):A:=h ⟨hk⟩
theorem z_r {A B:Prop}(hk:B)(h:Bx B->A:=by
 intro hk;refine ZAB rfl rfl rfl rfl rfl (fun _=>ZPV RowC.h rfl) ?_;exact hk.out):A:=h ⟨hk⟩
theorem g_r {A B:Prop}(hk:B)(h:Bx B->A:=by
 intro hk
 first|refine ZAT rfl rfl rfl rfl ?_|refine ZAB rfl rfl rfl rfl rfl (fun _=>ZPV RowC.h rfl) ?_
 exact hk.out):A:=h ⟨hk⟩
theorem g_c {A B:Prop}(hk:B)(h:Bx B->A:=by
 intro hk
 first|refine ZAT rfl rfl rfl rfl ?_|refine ZAB rfl rfl rfl rfl rfl (fun _=>ZRJ rfl rfl rfl Und.h rfl) ?_
 exact hk.out):A:=h ⟨hk⟩
theorem g_d {A B:Prop}(hk:B)(h:Bx B->A:=by
 intro hk
 first|refine ZAT rfl rfl rfl rfl ?_|refine ZAB rfl rfl rfl rfl rfl (fun _=>ZJ3 rfl rfl rfl Und.h rfl) ?_
 exact hk.out):A:=h ⟨hk⟩
theorem z_y {A B:Prop}(hk:B)(h:Bx B->A:=by
 intro hk;refine ZAB rfl rfl rfl rfl rfl (fun _=>A_ad rfl rfl) ?_;exact hk.out):A:=h ⟨hk⟩
theorem g_y {A B:Prop}(hk:B)(h:Bx B->A:=by
 intro hk
 first|refine ZAT rfl rfl rfl rfl ?_|refine ZAB rfl rfl rfl rfl rfl (fun _=>A_ad rfl rfl) ?_
 exact hk.out):A:=h ⟨hk⟩
theorem z_u {A B:Prop}(hk:B)(h:Bx B->A:=by
 intro hk;refine ZAB rfl rfl rfl rfl rfl (fun _=>A_sb rfl rfl) ?_;exact hk.out):A:=h ⟨hk⟩
theorem g_u {A B:Prop}(hk:B)(h:Bx B->A:=by
 intro hk
 first|refine ZAT rfl rfl rfl rfl ?_|refine ZAB rfl rfl rfl rfl rfl (fun _=>A_sb rfl rfl) ?_
 exact hk.out):A:=h ⟨hk⟩
theorem z_i {A B:Prop}(hk:B)(h:Bx B->A:=by
 intro hk;refine ZAB rfl rfl rfl rfl rfl (fun _=>A_ix Und.h Tsz.h rfl rfl) ?_;exact hk.out):A:=h ⟨hk⟩
theorem g_i {A B:Prop}(hk:B)(h:Bx B->A:=by
 intro hk
 first|refine ZAT rfl rfl rfl rfl ?_|refine ZAB rfl rfl rfl rfl rfl (fun _=>A_ix Und.h Tsz.h rfl rfl) ?_
 exact hk.out):A:=h ⟨hk⟩
theorem z_x {A B:Prop}(hk:B)(h:Bx B->A:=by
 intro hk;refine ZAB rfl rfl rfl rfl rfl (fun _=>ZUu rfl rfl) ?_;exact hk.out):A:=h ⟨hk⟩
theorem z_q {A B:Prop}(hk:B)(h:Bx B->A:=by
 intro hk;refine ZAB rfl rfl rfl rfl rfl (fun _=>ZDZ rfl) ?_;exact hk.out):A:=h ⟨hk⟩
theorem g_q {A B:Prop}(hk:B)(h:Bx B->A:=by
 intro hk
 first|refine ZAT rfl rfl rfl rfl ?_|refine ZAB rfl rfl rfl rfl rfl (fun _=>ZDZ rfl) ?_
 exact hk.out):A:=h ⟨hk⟩
theorem z_b {A B:Prop}(hk:B)(h:Bx B->A:=by
 intro hk;refine ZAB rfl rfl rfl rfl rfl (fun _=>ZMx rfl rfl) ?_;exact hk.out):A:=h ⟨hk⟩
theorem z_o {A B:Prop}(hk:B)(h:Bx B->A:=by
 intro hk;refine ZAT rfl rfl rfl rfl ?_;exact hk.out):A:=h ⟨hk⟩
section
variable {P:Program}{ops:Array Oper}{ms:List Nat}{m:Mem}{h:Heap}{l l':List Done}{v:Value}
theorem t_m (i:Nat)(ht:Stl P ops m h l')(hl:l=⟨ixAt ops ms i,v,none⟩::l':=by exact rfl) (hs:∀l,l=⟨ixAt ops ms i,v,none⟩::l'->Stl P ops m h l'->Stl P ops m h l:=by
 intro _ e t;exact ZBZ e rfl rfl rfl rfl (fun _=>ZDW rfl) rfl t):Stl P ops m h l:=hs _ hl ht
theorem t_f (i:Nat)(ht:Stl P ops m h l')(hl:l=⟨ixAt ops ms i,v,none⟩::l':=by exact rfl) (hs:∀l,l=⟨ixAt ops ms i,v,none⟩::l'->Stl P ops m h l'->Stl P ops m h l:=by
 intro _ e t;exact ZBZ e rfl rfl rfl rfl (fun _=>ZCI Fof.h rfl) rfl t):Stl P ops m h l:=hs _ hl ht
theorem o_f (i:Nat)(ht:Stl P ops m h l')(hl:l=⟨ixAt ops ms i,v,none⟩::l':=by exact rfl) (hs:∀l,l=⟨ixAt ops ms i,v,none⟩::l'->Stl P ops m h l'->Stl P ops m h l:=by
 intro _ e t
 first|exact ZGK e rfl rfl rfl rfl t|exact ZBZ e rfl rfl rfl rfl (fun _=>ZCI Fof.h rfl) rfl t):Stl P ops m h l:=hs _ hl ht
theorem t_l (i:Nat)(ht:Stl P ops m h l')(hl:l=⟨ixAt ops ms i,v,none⟩::l':=by exact rfl) (hs:∀l,l=⟨ixAt ops ms i,v,none⟩::l'->Stl P ops m h l'->Stl P ops m h l:=by
 intro _ e t;exact ZBZ e rfl rfl rfl rfl (fun _=>A_ld OneC.h rfl) rfl t):Stl P ops m h l:=hs _ hl ht
theorem o_l (i:Nat)(ht:Stl P ops m h l')(hl:l=⟨ixAt ops ms i,v,none⟩::l':=by exact rfl) (hs:∀l,l=⟨ixAt ops ms i,v,none⟩::l'->Stl P ops m h l'->Stl P ops m h l:=by
 intro _ e t
 first|exact ZGK e rfl rfl rfl rfl t|exact ZBZ e rfl rfl rfl rfl (fun _=>A_ld OneC.h rfl) rfl t):Stl P ops m h l:=hs _ hl ht
theorem t_r (i:Nat)(ht:Stl P ops m h l')(hl:l=⟨ixAt ops ms i,v,none⟩::l':=by exact rfl) (hs:∀l,l=⟨ixAt ops ms i,v,none⟩::l'->Stl P ops m h l'->Stl P ops m h l:=by
 intro _ e t;exact ZBZ e rfl rfl rfl rfl (fun _=>ZPV RowC.h rfl) rfl t):Stl P ops m h l:=hs _ hl ht
theorem t_y (i:Nat)(ht:Stl P ops m h l')(hl:l=⟨ixAt ops ms i,v,none⟩::l':=by exact rfl) (hs:∀l,l=⟨ixAt ops ms i,v,none⟩::l'->Stl P ops m h l'->Stl P ops m h l:=by
 intro _ e t;exact ZBZ e rfl rfl rfl rfl (fun _=>A_ad rfl rfl) rfl t):Stl P ops m h l:=hs _ hl ht
theorem t_u (i:Nat)(ht:Stl P ops m h l')(hl:l=⟨ixAt ops ms i,v,none⟩::l':=by exact rfl) (hs:∀l,l=⟨ixAt ops ms i,v,none⟩::l'->Stl P ops m h l'->Stl P ops m h l:=by
 intro _ e t;exact ZBZ e rfl rfl rfl rfl (fun _=>A_sb rfl rfl) rfl t):Stl P ops m h l:=hs _ hl ht
theorem t_q (i:Nat)(ht:Stl P ops m h l')(hl:l=⟨ixAt ops ms i,v,none⟩::l':=by exact rfl) (hs:∀l,l=⟨ixAt ops ms i,v,none⟩::l'->Stl P ops m h l'->Stl P ops m h l:=by
 intro _ e t;exact ZBZ e rfl rfl rfl rfl (fun _=>ZDZ rfl) rfl t):Stl P ops m h l:=hs _ hl ht
theorem t_b (i:Nat)(ht:Stl P ops m h l')(hl:l=⟨ixAt ops ms i,v,none⟩::l':=by exact rfl) (hs:∀l,l=⟨ixAt ops ms i,v,none⟩::l'->Stl P ops m h l'->Stl P ops m h l:=by
 intro _ e t;exact ZBZ e rfl rfl rfl rfl (fun _=>ZMx rfl rfl) rfl t):Stl P ops m h l:=hs _ hl ht
theorem nb {f:Done->Bool}{dn:List Done}(hn:NoB dn:=by repeat (first|exact ZPh|refine ZNz ?_|refine ZGL ?_)):ZA8 (dn.filter f) h=h:=ZNI hn
theorem nb' {dn:List Done}(hn:NoB dn:=by repeat (first|exact ZPh|refine ZNz ?_|refine ZGL ?_)):ZA8 dn h=h:=ZGj hn
end
variable {P:Program}
theorem Own.pick {h0 h:Heap}{l:List It}{x:It}(hO:Own h0 h l)(n:Nat)(e:l[n]?=some x):Own h0 h (x::l.eraseIdx n):=by
 obtain⟨hn,rfl⟩:=List.getElem?_eq_some_iff.1 e;refine hO.perm ?_;have h1:l=l.take n++l[n]::l.drop (n+1):=by rw[List.getElem_cons_drop,List.take_append_drop]
 rw[List.eraseIdx_eq_take_drop_succ];exact (List.Perm.of_eq h1).trans List.perm_middle
theorem Own.unpick {h0 h:Heap}{l:List It}{x:It}(n:Nat)(hn:n<l.length)(hO:Own h0 h (x::l.eraseIdx n)):Own h0 h (l.set n x):=by
 refine hO.perm ?_;rw[List.eraseIdx_eq_take_drop_succ,List.set_eq_take_append_cons_drop,if_pos hn];exact List.perm_middle.symm
theorem Own.join {h0 h h':Heap}{l l2:List It}(hO:Own h0 h l)(hw:WF h)(hn:h0.nx<=h.nx)(he:Ext h h')(h2:Own h h' l2):Own h0 h' (l2++l):=by
 refine⟨fun x hx=>?_,fun x hx c hc=>?_,List.pairwise_append.2 ⟨h2.ap,hO.ap,fun y hy z hz c hc hzc=>?_⟩⟩
 ·rcases List.mem_append.1 hx with g|g
  ·exact h2.has x g
  ·exact (hO.ext he).has x g
 ·rcases List.mem_append.1 hx with g|g
  ·exact Nat.le_trans hn (h2.lo x g c hc)
  ·exact hO.lo x g c hc
 ·obtain⟨o,ho⟩:=z.ex (hO.has z hz) hzc
  have h3:=h2.lo y hy c hc;have:=hw _ _ ho;omega
theorem Own.shuf {h0 h:Heap}{l:List It}(hO:Own h0 h l)(x:It)(p q:List Nat)(hp:p.Perm q)(e:l=p.map fun i=>l.getD i x):Own h0 h (q.map fun i=>l.getD i x):=hO.perm ((List.Perm.of_eq e).trans (hp.map _))
theorem Own.at {h0 h:Heap}{l:List It}(hO:Own h0 h l)(n:Nat){x:It}(e:l[n]?=some x):x.p h:=hO.has x (List.mem_of_getElem? e)
def loI (b:Nat)(o:AO):It where
 S:=fun c=>c=b
 p:=fun h=>h.get b=some o
 loc:=fun hk hp=>hk _ _ rfl hp
 ex:=fun hp hc=>⟨_,hc ▸ hp⟩
theorem Own.loSet {h0 h h':Heap}{l:List It}{b:Nat}{o o':AO}(hO:Own h0 h (loI b o::l))(hw0:WF h0)(he0:Ext h0 h)(hU:Upd h b o' h'):Own h0 h' (loI b o'::l)/\Ext h0 h':=by
 have hap:=List.pairwise_cons.1 hO.ap;refine⟨⟨fun x hx=>?_,fun x hx c hc=>?_,List.pairwise_cons.2 ⟨fun z hz c hc=>hap.1 z hz c hc,hap.2⟩⟩,hU.ext he0 hw0 (hO.lo _ List.mem_cons_self b rfl)⟩
 ·rcases List.mem_cons.1 hx with rfl|hx
  ·exact hU.at'
  ·exact x.loc (fun c o hc hg=>hU.get (fun e=>hap.1 x hx c e hc) hg) (hO.has x (List.mem_cons_of_mem _ hx))
 ·rcases List.mem_cons.1 hx with rfl|hx
  ·exact hO.lo _ List.mem_cons_self c hc
  ·exact hO.lo x (List.mem_cons_of_mem _ hx) c hc
theorem Own.two {h h':Heap}{a b:Nat}{o u:AO}(ha:h'.get a=some o)(hb:h'.get b=some u)(hna:h.nx<=a)(hnb:h.nx<=b)(hab:a≠b):Own h h' [loI a o,loI b u]:=by
 refine⟨fun x hx=>?_,fun x hx c hc=>?_,List.pairwise_cons.2 ⟨fun y hy c hc hyc=>?_,List.pairwise_cons.2 ⟨(fun _ hy=>nomatch hy),.nil⟩⟩⟩
 ·simp only[List.mem_cons,List.not_mem_nil,or_false] at hx
  rcases hx with rfl|rfl
  ·exact ha
  ·exact hb
 ·simp only[List.mem_cons,List.not_mem_nil,or_false] at hx
  rcases hx with rfl|rfl
  ·have hc:c=a:=hc
   rw[hc];exact hna
  ·have hc:c=b:=hc
   rw[hc];exact hnb
 ·rw[List.mem_singleton.1 hy] at hyc
  exact hab ((show c=a from hc).symm.trans hyc)
theorem Own.lt {h0 h:Heap}{l:List It}(hO:Own h0 h l)(hw:WF h):∀x∈l,∀c,x.S c->c<h.nx:=fun x hx c hc=>by
 obtain⟨o,ho⟩:=x.ex (hO.has x hx) hc;exact hw _ _ ho
theorem Own.other {h0 h:Heap}{l:List It}{b:Nat}(o:AO)(hO:Own h0 h l)(hne:∀x∈l,∀c,x.S c->c≠b):Own h0 (h.set b o) l :=
 ⟨fun x hx=>x.loc (fun c ob hc hg=>(Upd.mk' h b o).get (hne x hx c hc) hg) (hO.has x hx),hO.lo,hO.ap⟩
theorem Own.ne {h0 h:Heap}{l:List It}{n1:Nat}(hO:Own h0 h l)(hw:WF h)(hn:h.nx<=n1):∀x∈l,∀c,x.S c->c≠n1:=fun x hx c hc=>by
 have:=hO.lt hw x hx c hc;omega
abbrev rsv (h:Heap):Heap:=⟨h.t,Nat.succ h.nx,h.gl⟩
theorem Ext.rsv (h:Heap):Ext h (rsv h):=⟨fun _ _ x=>x,Nat.le_succ _,rfl⟩
theorem WF.rsv {h:Heap}(hw:WF h):WF (rsv h):=fun c x hc=>Nat.lt_succ_of_lt (hw c x hc)
theorem WF.upd {h h':Heap}{b:Nat}{o:AO}(hw:WF h)(hU:Upd h b o h')(hb:b<h.nx):WF h':=fun c x hc=>by
 rw[hU.nx]
 by_cases e:c=b
 ·omega
 ·rw[hU.other c e] at hc;exact hw c x hc
theorem ZAF.updL {h0 h h':Heap}{v:Value}{el:TypeId}{sz n b:Nat}{cs:List Value}{o:AO}(ho:ZAF h0 h v el sz cs n)(hU:Upd h b o h')(hb:b<h0.nx):ZAF h0 h' v el sz cs n:=by
 rcases ho with g|⟨b',sp,op,e1,e2,e3,e4,e5⟩
 ·exact .inl g
 ·exact .inr ⟨b',sp,op,e1,hU.get (by omega) e2,e3,e4,e5⟩
theorem ZCA {α:Type}{f:α->List Value}{k:Nat}:∀{P:List α}{i:Nat}(hi:i<P.length),(∀p∈P,(f p).length=k)->cut (P.flatMap f) (i*k) k=some (f P[i])
 | p::P,0,_,h=>by
  have hp:=h p List.mem_cons_self;rw[List.flatMap_cons,Nat.zero_mul,ZDQ (by rw[List.length_append];omega)];simp only[List.drop_zero,List.getElem_cons_zero,Option.some.injEq];rw[<-hp];exact List.take_left
 | p::P,i+1,hi,h=>by
  have hp:=h p List.mem_cons_self;have ih:=ZCA (f:=f) (k:=k) (P:=P) (i:=i) (by simpa using hi) fun q hq=>h q (List.mem_cons_of_mem _ hq);rw[List.flatMap_cons,List.getElem_cons_succ,<-ih];have hle:i*k+k<=(P.flatMap f).length:=by
   have hl:(P.flatMap f).length=P.length*k:=by
    have:∀{Q:List α},(∀p∈Q,(f p).length=k)->(Q.flatMap f).length=Q.length*k:=by
     intro Q hQ
     induction Q with
     | nil=>simp
     | cons q Q ihQ=>rw[List.flatMap_cons,List.length_append,hQ q List.mem_cons_self,ihQ fun x hx=>hQ x (List.mem_cons_of_mem _ hx),List.length_cons,Nat.succ_mul,Nat.add_comm]
    exact this fun q hq=>h q (List.mem_cons_of_mem _ hq)
   have:i+1<=P.length:=by
    have:i+1<(p::P).length:=hi;rw[List.length_cons] at this;omega
   rw[hl,<-Nat.succ_mul];exact Nat.mul_le_mul_right k this
  rw[ZDQ hle,ZDQ (by rw[List.length_append,hp,Nat.succ_mul];omega),Nat.succ_mul]
  congr 2
  rw[List.drop_append,List.drop_eq_nil_of_le (by omega),hp];simp
section
variable {fr:Fr}{m:Mem}{ds:List ADef}{h:Heap}{ops:Array Oper}{d:Option Tmp}{ty:TypeId}{pos:String}{af:Array Edge}{gu:Option (Nat×Bool)}{K Kp:Value->List ADef->Heap->Prop}
end
theorem zy {A B:Prop}(hk:B)(h:Bx B->A:=by
 intro hk
 repeat (first|(show Wc _ _ _ _ _ _ _;first|refine ZED ?_|refine ZBs ?_|refine ZN8 rfl ?_|refine ZFR rfl ?_|refine ZNy ?_|refine ZIL ?_|refine ZMW ?_|refine ZNU ?_)|(show Wo _ _ _ [] _ _ _ _;refine ZD7 ?_)|(show Wo _ _ _ (_::_) _ _ _ _;first|(show Wo _ _ _ (⟨_,_,_,_,_,some _⟩::_) _ _ _ _;refine ZTY rfl rfl rfl ?_)|(show Wo _ _ _ (⟨_,_,_,_,_,some _⟩::_) _ _ _ _;refine ZQa rfl rfl ?_)|(show Wo _ _ _ (⟨_,.move _,_,_,_,_⟩::_) _ _ _ _;refine ZAV rfl rfl rfl rfl (ZDW rfl) ?_)|(show Wo _ _ _ (⟨_,.build _ _,_,_,_,_⟩::_) _ _ _ _;refine ZAV rfl rfl rfl rfl (ZMx rfl rfl) ?_)|(show Wo _ _ _ (⟨_,.typeAssert _ _ _ _,_,_,_,_⟩::_) _ _ _ _;refine ZAV rfl rfl rfl rfl (ZSs rfl) ?_)|(show Wo _ _ _ (⟨_,.nilCheck _,_,_,_,_⟩::_) _ _ _ _;refine ZAV rfl rfl rfl rfl (ZDZ rfl) ?_)|(show Wo _ _ _ (⟨_,.assign _,_,_,_,_⟩::_) _ _ _ _;refine ZAV rfl rfl rfl rfl (ZAj rfl) ?_)|(show Wo _ _ _ (⟨_,.pick _ _ _,_,_,_,_⟩::_) _ _ _ _;refine ZAV rfl rfl rfl rfl (ZKH rfl rfl) ?_)|(show Wo _ _ _ (⟨_,.pick _ _ _,_,_,_,_⟩::_) _ _ _ _;refine ZAV rfl rfl rfl rfl (ZKG rfl rfl) ?_)|(show Wo _ _ _ (⟨_,.unOp .not _ _,_,_,_,_⟩::_) _ _ _ _;refine ZAV rfl rfl rfl rfl (ZTF rfl) ?_)|(show Wo _ _ _ (⟨_,.makeFunc _ _ _,_,_,_,_⟩::_) _ _ _ _;refine ZAV rfl rfl rfl rfl (ZUl rfl rfl) ?_)|(show Wo _ _ _ (⟨_,.extract _ _,_,_,_,_⟩::_) _ _ _ _;refine ZAV rfl rfl rfl rfl (ZKU rfl rfl) ?_)|(show Wo _ _ _ (⟨_,.fieldAddr _ _ _,_,_,_,_⟩::_) _ _ _ _;refine ZAV rfl rfl rfl rfl (ZCI Fof.h rfl) ?_)|(show Wo _ _ _ (⟨_,.load _ _,_,_,_,_⟩::_) _ _ _ _;refine ZAV rfl rfl rfl rfl (A_ld OneC.h rfl) ?_)|(show Wo _ _ _ (⟨_,.load _ _,_,_,_,_⟩::_) _ _ _ _;refine ZAV rfl rfl rfl rfl (ZPV RowC.h rfl) ?_)|(show Wo _ _ _ (⟨_,.call ⟨.builtin .len,_,_⟩,_,_,_,_⟩::_) _ _ _ _;refine ZAV rfl rfl rfl rfl (ZRJ rfl rfl rfl Und.h rfl) ?_)|(show Wo _ _ _ (⟨_,.call ⟨.builtin .len,_,_⟩,_,_,_,_⟩::_) _ _ _ _;refine ZAV rfl rfl rfl rfl (ZJ3 rfl rfl rfl Und.h rfl) ?_)|(show Wo _ _ _ (⟨_,.binOp .add _ _ _ _,_,_,_,_⟩::_) _ _ _ _;refine ZAV rfl rfl rfl rfl (A_ad rfl rfl) ?_)|(show Wo _ _ _ (⟨_,.binOp .sub _ _ _ _,_,_,_,_⟩::_) _ _ _ _;refine ZAV rfl rfl rfl rfl (A_sb rfl rfl) ?_)))
 exact hk.out):A:=h ⟨hk⟩
theorem ZTc {P:Program}{m:Mem}{h:Heap}{d:Option Tmp}{ty:TypeId}{pos:String}{af:Array Edge}{gu:Option (Nat×Bool)}{t tz:TypeId}{x y:Operand}{a b:Bool}(hu:P.underlying t=some .bool)(hx:opk h m x=some (.bool a))(hy:opk h m y=some (.bool b)):Aop P ⟨d,.binOp .eql t x y tz,ty,pos,af,gu⟩ m h (.bool (decide (a=b))) h :=
 ZCm hx hy rfl rfl rfl fun w=>by
  have h1:(Op.equal t (.bool a) (.bool b)).run P w=.ok (a == b) w:=run_equalIn_bool w (Op.maxDepth-1) t a b hu;simp[eqGuard,binOp,go_sem,h1];cases a <;> cases b <;> rfl
theorem ZF5 {P:Program}{m:Mem}{h:Heap}{d:Option Tmp}{ty:TypeId}{pos:String}{af:Array Edge}{gu:Option (Nat×Bool)}{t tz:TypeId}{x y:Operand}{a b:Int}(hx:opk h m x=some (.int .i64 a))(hy:opk h m y=some (.int .i64 b))(h1:-9223372036854775808<=a*b)(h2:a*b<9223372036854775808):Aop P ⟨d,.binOp .mul t x y tz,ty,pos,af,gu⟩ m h (.int .i64 (a*b)) h :=
 ZCm hx hy rfl rfl rfl fun w=>by
  have:IntKind.i64.wrap (a*b)=a*b:=IntWalk.i64_in _ (by omega);simp only[Sem.run_bind,ZBA,Result.andThen_ok];simp[binOp,Op.intArith,this]
theorem ZNw {P:Program}{m:Mem}{h:Heap}{d:Option Tmp}{ty:TypeId}{pos:String}{af:Array Edge}{gu:Option (Nat×Bool)}{t tz:TypeId}{x y:Operand}{a b c:Int}(hx:opk h m x=some (.int .i64 a))(hy:opk h m y=some (.int .i64 b))(hc:a*b=c)(h1:-9223372036854775808<=c)(h2:c<9223372036854775808):Aop P ⟨d,.binOp .mul t x y tz,ty,pos,af,gu⟩ m h (.int .i64 c) h:=by
 subst hc;exact ZF5 hx hy h1 h2
theorem ZHi {P:Program}{m:Mem}{h:Heap}{d:Option Tmp}{ty:TypeId}{pos:String}{af:Array Edge}{gu:Option (Nat×Bool)}{t tz:TypeId}{x y:Operand}{a b c:Int}(hx:opk h m x=some (.int .i64 a))(hy:opk h m y=some (.int .i64 b))(hb:b≠0)(hc:a.tdiv b=c)(h1:-9223372036854775808<=c)(h2:c<9223372036854775808):Aop P ⟨d,.binOp .quo t x y tz,ty,pos,af,gu⟩ m h (.int .i64 c) h :=
 ZCm hx hy rfl rfl rfl fun w=>by
  subst hc;have:IntKind.i64.wrap (a.tdiv b)=a.tdiv b:=IntWalk.i64_in _ (by omega);simp only[Sem.run_bind,ZBA,Result.andThen_ok];simp[binOp,Op.intDiv,hb,this]
end Go.Dw
namespace Go.Dw
open Go.Dx
section
variable {P:Program}{fr:Fr}{m:Mem}{ds:List ADef}{h:Heap}{Q:CQ}{ops:Array Oper}{o:Oper}{l:List Oper}{d:Nat}{v:Value}{B:Prop}
theorem zE {h1:Heap}(hA:Aop P o m h v h1)(hk:Wo P fr ops l (upd m d v) ds h1 Q)(hg:gk ops.toList m o.guard=some true:=by rfl) (hp:ZDx o.op=true:=by rfl) (hd:o.dst=some d:=by rfl) (hlt:Nat.blt d fr.nt=true:=by rfl):Wo P fr ops (o::l) m ds h Q:=ZAV hg hp hd hlt hA hk
theorem zD {h1:Heap}(hA:Aop P o m h v h1)(hk:B)(hg:gk ops.toList m o.guard=some true:=by rfl) (hp:ZDx o.op=true:=by rfl) (hd:o.dst=some d:=by rfl) (hlt:Nat.blt d fr.nt=true:=by rfl)
  (hz:Bx B->Wo P fr ops l (upd m d v) ds h1 Q:=by (intro hk;refine zy ?_;exact hk.out)):Wo P fr ops (o::l) m ds h Q:=ZAV hg hp hd hlt hA (hz ⟨hk⟩)
theorem zC {p:Prop} [Decidable p]{h1:Heap}(hA:Aop P o m h (.bool (decide p)) h1)(ht:p->Wo P fr ops l (upd m d (.bool true)) ds h1 Q)(hn:¬p->Wo P fr ops l (upd m d (.bool false)) ds h1 Q)(hg:gk ops.toList m o.guard=some true:=by rfl) (hp:ZDx o.op=true:=by rfl) (hd:o.dst=some d:=by rfl) (hlt:Nat.blt d fr.nt=true:=by rfl):Wo P fr ops (o::l) m ds h Q:=ZAx hg hp hd hlt hA ht hn
section
variable {c:Call}{f:Operand}{g:FuncId}{first cap args asq:List Value}
theorem zR {R:Value->Heap->Prop}(hv:Sv P g asq h (RetP R))(hk:∀v h1,R v h1->Wo P fr ops l (upd m d v) ds h1 Q)(hg:gk ops.toList m o.guard=some true:=by rfl) (hop:o.op=.call c:=by rfl) (hcal:c.callee=.value f:=by rfl) (hf:opk h m f=some (.func (.func g) ⟨first⟩ ⟨cap⟩):=by rfl) (ha:opkl h m c.args.toList=some args:=by rfl)
  (hb:ZAp P g=true:=by exact Bod.h) (hd:o.dst=some d:=by rfl) (hlt:Nat.blt d fr.nt=true:=by rfl) (has:first++(args++cap)=asq:=by rfl):Wo P fr ops (o::l) m ds h Q:=by
 subst has;exact ZAa hg hop hcal hf ha hb hd hlt hv hk
theorem zW (hv:Sv P g asq h (RetP fun v' h'=>v'=v/\Ext h h'))(hk:∀h1,Ext h h1->Wo P fr ops l (upd m d v) ds h1 Q)(hg:gk ops.toList m o.guard=some true:=by rfl) (hop:o.op=.call c:=by rfl) (hcal:c.callee=.value f:=by rfl) (hf:opk h m f=some (.func (.func g) ⟨first⟩ ⟨cap⟩):=by rfl) (ha:opkl h m c.args.toList=some args:=by rfl)
  (hb:ZAp P g=true:=by exact Bod.h) (hd:o.dst=some d:=by rfl) (hlt:Nat.blt d fr.nt=true:=by rfl) (has:first++(args++cap)=asq:=by rfl):Wo P fr ops (o::l) m ds h Q:=by
 subst has;exact ZBv hg hop hcal hf ha hb hd hlt hv hk
theorem zU (hv:Sv P g asq h (RetP fun v' h'=>v'=v/\h'=h))(hk:Wo P fr ops l (upd m d v) ds h Q)(hg:gk ops.toList m o.guard=some true:=by rfl) (hop:o.op=.call c:=by rfl) (hcal:c.callee=.value f:=by rfl) (hf:opk h m f=some (.func (.func g) ⟨first⟩ ⟨cap⟩):=by rfl) (ha:opkl h m c.args.toList=some args:=by rfl)
  (hb:ZAp P g=true:=by exact Bod.h) (hd:o.dst=some d:=by rfl) (hlt:Nat.blt d fr.nt=true:=by rfl) (has:first++(args++cap)=asq:=by rfl):Wo P fr ops (o::l) m ds h Q:=by
 subst has;exact ZBF hg hop hcal hf ha hb hd hlt hv hk
theorem zV (hv:Sv P g asq h (RetP fun v' h'=>v'=v/\h'=h))(hk:B)(hg:gk ops.toList m o.guard=some true:=by rfl) (hop:o.op=.call c:=by rfl) (hcal:c.callee=.value f:=by rfl) (hf:opk h m f=some (.func (.func g) ⟨first⟩ ⟨cap⟩):=by rfl) (ha:opkl h m c.args.toList=some args:=by rfl)
  (hb:ZAp P g=true:=by exact Bod.h) (hd:o.dst=some d:=by rfl) (hlt:Nat.blt d fr.nt=true:=by rfl) (has:first++(args++cap)=asq:=by rfl)
  (hz:Bx B->Wo P fr ops l (upd m d v) ds h Q:=by (intro hk;refine zy ?_;exact hk.out)):Wo P fr ops (o::l) m ds h Q:=by
 subst has;exact ZBF hg hop hcal hf ha hb hd hlt hv (hz ⟨hk⟩)
end
end
end Go.Dw
namespace Go.Dw
open Go Go.Dx
theorem kF {p:Done->Bool}{d:Done}{l l':List Done}(h:l.filter p=l')(hp:p d=true:=by exact rfl):(d::l).filter p=d::l':=by
 rw[List.filter_cons_of_pos hp,h]
theorem dF {p:Done->Bool}{d:Done}{l l':List Done}(h:l.filter p=l')(hp:p d=false:=by exact rfl):(d::l).filter p=l':=by
 rw[List.filter_cons_of_neg (by rw[hp];decide),h]
theorem nF {p:Done->Bool}:([]:List Done).filter p=[]:=rfl
variable {P:Program}
def ZN2 (P:Program)(el:TypeId)(a:Option Addr)(len cap:Nat):Prop :=
 (a=none/\len=0)\/(∃b o,a=some ⟨b,o,none⟩/\len<=cap)\/(∃b,a=some ⟨b,0,some 0⟩/\len=0/\cap=0)\/∃b o sz,a=some ⟨b,o,some (sz+1)⟩/\len<=cap/\tsz P el=some (sz+1)
theorem ZAF.takeOk {h0 h:Heap}{v:Value}{el:TypeId}{sz:Nat}{cs:List Value}{n:Nat}(ho:ZAF h0 h v el (sz+1) cs n)(hz:tsz P el=some (sz+1)):∃a,v=.slice a n n/\ZN2 P el a n n:=by
 rcases ho with ⟨rfl,_,rfl⟩|⟨b,sp,op,rfl,_,_,_,rfl|rfl⟩
 ·exact⟨none,rfl,.inl ⟨rfl,rfl⟩⟩
 ·exact⟨_,rfl,.inr (.inl ⟨b,0,rfl,Nat.le_refl _⟩)⟩
 ·exact⟨_,rfl,.inr (.inr (.inr ⟨b,0,sz,rfl,Nat.le_refl _,hz⟩))⟩
theorem ZVs {len cap k:Nat}{kj:IntKind}(hk:k<=cap):sb len cap none (some (.int kj (k:Int))) none=some (0,k,cap):=by
 have hb:Nat.ble k cap=true:=Nat.ble_eq_true_of_le hk;have hb0:Nat.ble 0 k=true:=Nat.ble_eq_true_of_le (Nat.zero_le _);have hb1:Nat.ble cap cap=true:=Nat.ble_eq_true_of_le (Nat.le_refl _);have c1:bnd none cap cap=some cap:=by simp only[bnd,hb1]
 have c2:bnd (some (.int kj (Int.ofNat k))) len cap=some k:=by simp only[bnd,ZEA,hb]
 have c3:bnd none 0 k=some 0:=by simp only[bnd,hb0]
 show sb len cap none (some (.int kj (Int.ofNat k))) none=_
 simp only[sb,c1,c2,c3]
section
variable {m:Mem}{h:Heap}{d:Option Tmp}{ty:TypeId}{pos:String}{af:Array Edge}{gu:Option (Nat×Bool)}
end
theorem ZBO.take {α:Type}{k:Nat}{R:Heap->List Value->α->Prop}{h:Heap}{a:Option Addr}{l:List α}(hl:ZBO k R h a l)(n:Nat):ZBO k R h a (l.take n):=fun i hi=>by
 rw[List.length_take] at hi;obtain⟨b,o,oa,e,row,h1,h2⟩:=hl i (by omega);refine⟨b,o,oa,e,row,h1,?_⟩;rw[List.getElem_take];exact h2
theorem ZAi.take {α:Type}{enc:α->Value}{h:Heap}{a:Option Addr}{l:List α}(hl:ZAi enc h a l)(n:Nat):ZAi enc h a (l.take n):=fun i hi=>by
 rw[List.length_take] at hi;obtain⟨b,o,oa,e,h1⟩:=hl i (by omega);refine⟨b,o,oa,e,?_⟩;rw[List.getElem_take];exact h1
theorem ZDE {P:Program}{m:Mem}{h:Heap}{d:Option Tmp}{ty:TypeId}{pos:String}{af:Array Edge}{gu:Option (Nat×Bool)}{a b:TypeId}{x:Operand}{k k':IntKind}{n n':Int}(ha:∃dd,P.underlying a=some dd)(hb:P.underlying b=some (.int k'))(hx:opk h m x=some (.int k n))(hn:k'.wrap n=n'):Aop P ⟨d,.convert a b x,ty,pos,af,gu⟩ m h (.int k' n') h:=by
 rw[<-hn];exact ZVQ ha hb hx
variable {P:Program}
section
variable {fr:Fr}{m:Mem}{ds:List ADef}{h:Heap}{ops:Array Oper}{d:Option Tmp}{ty:TypeId}{pos:String}{af:Array Edge}{gu:Option (Nat×Bool)}{K Kp:Value->List ADef->Heap->Prop}
end
variable {P:Program}
section
variable {fr:Fr}{ops:Array Oper}{o:Oper}{m:Mem}{ds:List ADef}{h:Heap}{l:List Oper}{Q:CQ}
theorem ZTL {d:Nat}{v:Value}{h1:Heap}(hg:gk ops.toList m o.guard=some true)(hnd:∀c',o.op≠.defer c')(hd:o.dst=some d)(hlt:Nat.blt d fr.nt=true)(hA:Aop P o m h v h1)
  (hk:Wo P fr ops l (upd m d v) ds h1 Q):Wo P fr ops (o::l) m ds h Q:=by
 refine⟨?_⟩;intro k hdr e hs ι0 h0 w0 ι w a F hr hfr hF ad0;have ho:ops[k]?=some o:=by
  have:ops.toList[k]?=some o:=by
   have h1:(ops.toList.drop k)[0]?=some o:=by rw[hdr];rfl
   rw[List.getElem?_drop] at h1;simpa using h1
  simpa using this
 have hd':ops.toList.drop (k+1)=l:=by
  have:(ops.toList.drop k).drop 1=l:=by rw[hdr];rfl
  rw[List.drop_drop] at this;exact this
 rw[List.length_cons,List.range'_succ,wpOpsIn_cons];unfold wpOpIn;simp only[ho];rw[ZBI hfr (ZEC hs hg)];simp only[if_true];have hfin:fin VT fr o v e ds h1=.ok .normal (putE VT fr.fn d v e) ds h1:=by simp only[fin,put,hd,hlt]
 refine ZHE hF hnd hr hfr (hA e hs ι w a hr hfr.env) hfin ⟨fun _ ι2 _ a2 w2 _ ad hr2 hf2=>?_,fun v hv=>by cases hv⟩;exact hk.w (k+1) hd' _ (hs.put fr.fn d v) ι0 h0 w0 ι2 w2 a2 F hr2 hf2 (hF.mono ad.sub) (ad0.trans ad)
end
section
variable {m:Mem}{h:Heap}{d:Option Tmp}{ty:TypeId}{pos:String}{af:Array Edge}{gu:Option (Nat×Bool)}
theorem ZC5 {t:TypeId}{ps:Array (Nat×Operand)}{parts:List (Nat×Value)}{v:Value}(hp:opks h m ps.toList=some parts)(hq:ZLX P t parts=some v):Aop P ⟨d,.build t ps,ty,pos,af,gu⟩ m h v h :=
 ZAe fun e hs=>by
  show ZGk P h e t ps=_
  unfold ZGk;rw[ZEM hs hp];simp only[hq]
theorem ZQc {t:TypeId}{x i:Operand}{p ix v:Value}(hx:opk h m x=some p)(hi:opk h m i=some ix)(hv:ZGf P t p ix=some v):Aop P ⟨d,.index t x i,ty,pos,af,gu⟩ m h v h :=
 ZAe fun e hs=>by
  show ZGn P h e t x i=_
  unfold ZGn;simp only[ZAM hs hx,ZAM hs hi,hv]
end
variable {P:Program}{m:Mem}{h:Heap}{d:Option Tmp}{ty:TypeId}{pos:String}{af:Array Edge}{gu:Option (Nat×Bool)}
theorem ZNx {t:TypeId}{ts:List TypeId}{x:Operand}{c:Call}{v:Value}{h1:Heap}(hc:c.callee=.builtin .clear)(hargs:c.args=#[x])(hat:c.argTypes.toList=t::ts)(hx:opk h m x=some v)(hq:ZI3 P t v h=some h1):Aop P ⟨d,.call c,ty,pos,af,gu⟩ m h (.tuple ⟨[]⟩) h1 :=
 ZAe fun e hs=>by
  show ZEo P _ h e c=_
  unfold ZEo;rw[hc];simp only[hargs,hat,ZCC,ZAM hs hx,hq]
theorem ZN7 {t el:TypeId}{b o n cap:Nat}{sp:Option Nat}{z:Value}{vs r:List Value}{e0:TypeId}{op:Bool}{h:Heap}(ht:P.underlying t=some (.slice el))(hz:ZA9 P el=some z)(h0:Nat.blt 0 z.cells.toList.length=true)(h1:allOne (rep n z.cells.toList)=true)(hs:sp≠some 0)(hn:0<n)
  (hg:h.get b=some (.cells vs e0 op)) (hl:lay vs o (rep n z.cells.toList)=some r):ZI3 P t (.slice (some ⟨b,o,sp⟩) n cap) h=some (h.set b (.cells r e0 op)):=by
 obtain⟨k,rfl⟩:∃k,n=k+1:=⟨n-1,by omega⟩;unfold ZI3;rw[ht]
 cases sp with
 | none=>simp only[hz,hg,h0,h1,hl]
 | some q =>
  cases q with
  | zero=>exact absurd rfl hs
  | succ q=>simp only[hz,hg,h0,h1,hl]
variable {P:Program}
theorem ZU5 {len cap:Nat}{kj:IntKind}{k:Nat}(hk:k<=len):sb len cap (some (.int kj (k:Int))) none none=some (k,len,cap):=by
 have hb1:Nat.ble cap cap=true:=Nat.ble_eq_true_of_le (Nat.le_refl _);have hb:Nat.ble k len=true:=Nat.ble_eq_true_of_le hk;have c1:bnd none cap cap=some cap:=by simp only[bnd,hb1]
 have c2:bnd none len cap=some len:=by simp only[bnd]
 have c3:bnd (some (.int kj (Int.ofNat k))) 0 len=some k:=by simp only[bnd,ZEA,hb]
 show sb len cap (some (.int kj (Int.ofNat k))) none none=_
 simp only[sb,c1,c2,c3]
theorem ZAi.tail {α:Type}{enc:α->Value}{h:Heap}{b o:Nat}{sp sp':Option Nat}{x:α}{l:List α}(hl:ZAi enc h (some ⟨b,o,sp⟩) (x::l)):ZAi enc h (some ⟨b,o+1,sp'⟩) l:=fun i hi=>by
 obtain⟨b1,o1,oa,e,hc⟩:=hl (i+1) (by simpa using hi);cases e;refine⟨b,o+1,sp',rfl,?_⟩;rw[show o+1+i*1=o+(i+1)*1 by omega];exact hc
end Go.Dw
