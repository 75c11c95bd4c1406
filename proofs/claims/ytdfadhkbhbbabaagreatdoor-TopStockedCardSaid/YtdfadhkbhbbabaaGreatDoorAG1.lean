/- DxT: the abstract run is sound, part 3: rounds of loops over functions; one operation; regions in the order of the text. -/
import Derived.LoopNIn
import Derived.OrdersIn
import Derived.RowKit3
import Derived.Test.YtdfadhkbhbbabaaGreatDoorAG0
set_option linter.unusedVariables false
set_option linter.unusedSimpArgs false
namespace Go.Dx
variable {P:Program}{V:Nat->Nat->Bool} {ι:Iota}
theorem ZUD {fn:FuncId}{e:Env}(h:eiOk V fn e=true):EI V fn e:=by
 unfold eiOk at h;simp only[Bool.and_eq_true,List.isEmpty_iff,List.all_eq_true] at h;exact⟨(fun p hp=>by rw[h.1] at hp;cases hp),fun p hp=>h.2 p hp⟩
theorem FenR.inRound {rd:Option Nat}{F:Fence}(h:FenR ι rd F)(b:Nat):F.inRound b=Fence.wide.inRound b:=by
 cases rd with
 | none=>rw[h]
 | some l=>obtain⟨bi,_,rfl⟩:=h;rfl
theorem ZFl {ev:Ev}(hev:EvOK P V ev){l:Nat}{args:List Value}{h:Heap}{r:VS}(hs:ZJN V ev l args h=r)(hne:r≠.no){w:World}{bi:BI}{args':Array Value}
  (hr:HR ι h w.heap) (hi:ι l=some bi) (hv:VRL ι args args'.toList) {rd:Option Nat} {F:Fence} (hF:FenR ι rd F) :
  ∃fn tmps assign body,(Instr.yield bi.blk args').run P w=.ok (.round bi.blk fn tmps assign body) w/\RoundIn F 0 P bi.blk fn tmps assign body w (ZFA ι h w r):=by
 unfold ZJN at hs
 split at hs
 case h_2=>exact absurd hs.symm hne
 rename_i pend fn nt env ps asq bd df hg;obtain⟨lc,hw,l1,l2,l4,l5,l6,l7,l8,bi',l9,l10⟩:=hr.loopAt hg hi;cases hei:eiOk V fn env
 ·rw[hei] at hs;exact absurd hs.symm hne
 rw[hei] at hs;simp only at hs
 split at hs
 case h_2=>exact absurd hs.symm hne
 rename_i e0 hz;have hf0:=FR.env_loop (V:=V) (fr:=⟨fn,nt,some l⟩) l5 (ZUD hei) l4;obtain⟨hf1,hlen⟩:=ZIl hf0 hv hz;refine⟨lc.fn,(ps.toList.zip args'.toList).foldl (fun t (p,v)=>t.setIfInBounds p v) lc.tmps,asq,bd,?_,?_⟩
 ·have hsz:¬args'.size≠ps.size:=by
   have:ps.toList.length=args'.toList.length:=hlen;simp at this;simp[this]
  simp only[Instr.yield,Sem.run_bind,ZBx hw,Result.andThen_ok,l6,hsz,if_false,Sem.run_pure,l7,l8]
  congr 3
  rw[<-Array.foldl_toList,Array.toList_zip]
 split at hs
 case h_2=>exact absurd hs.symm hne
 rename_i e1 h1 hca
 split at hs
 case h_2=>exact absurd hs.symm hne
 rename_i pend1 fn1 nt1 env1 ps1 as1 bd1 df1 hg1
 split at hs
 case h_2=>exact absurd hs.symm hne
 rename_i x e2 ds2 h2 hcb
 split at hs
 case h_2=>exact absurd hs.symm hne
 rename_i j st2 pend2 fn2 nt2 env2 ps2 as2 bd2 df2 hj hg2;subst hs;have hF1:FenR ι (some l) (F.inRound bi.blk):=⟨bi,hi,hF.inRound _⟩;refine roundIn_of_wpIn (hF.fn _) (wpIn_mono (hev.code hca hr hf1 hF1) ?_);rintro ex a1 w1 ⟨ι1,ad1,hr1,fr1,x1⟩;cases x1;have hi1:=ad1.sub _ _ hi;obtain⟨lc1,hw1,m1,m2,m4,m5,m6,m7,m8,bi1',m9,m10⟩:=hr1.loopAt hg1 hi1
 have hset:=hr1.set (o2:=.loop .busy pend1 fn1 nt1 env1 ps1 as1 bd1 df1) (o2':=.loop { lc1 with state:=.busy }) hg1 hi1 (by
  simp only[OR];exact⟨trivial,m2,m4,m5,m6,m7,m8,bi1',m9,m10⟩)
 refine⟨{ w1 with heap:=w1.heap.setIfInBounds bi.blk (.loop { lc1 with state:=.busy }) },?_,?_⟩
 ·simp only[Instr.beginRound,Sem.run_bind,ZBx hw1,Result.andThen_ok,ZCs hw1,m1,Sem.run_pure]
 have hF2:FenR ι1 (some l) (F.inRound bi.blk):=hF1.mono ad1.sub
 refine wpIn_mono (hev.code hcb (w:={ w1 with heap:=w1.heap.setIfInBounds bi.blk (.loop { lc1 with state:=.busy }) }) hset.1 fr1 hF2) ?_
 rintro ex2 a2 w2 ⟨ι2,ad2,hr2,fr2,x2⟩;have hi2:=ad2.sub _ _ hi1;obtain⟨lc2,hw2,n1,n2,n4,n5,n6,n7,n8,bi2',n9,n10⟩:=hr2.loopAt hg2 hi2
 have hset2:=hr2.set (o2:=.loop (if j.isNone then .ready else .done) j fn2 nt2 env2 ps2 as2 bd2 df2) (o2':=.loop { lc2 with state:=if j.isNone then .ready else .done,pending:=j }) hg2 hi2 (by
  simp only[OR];exact⟨trivial,trivial,n4,n5,n6,n7,n8,bi2',n9,n10⟩)
 refine ZHU x2 hj ⟨.bool j.isNone,{ w2 with heap:=w2.heap.setIfInBounds bi.blk (.loop { lc2 with state:=if j.isNone then .ready else .done,pending:=j }) },?_,?_⟩
 ·simp only[Instr.endRound,Sem.run_bind,ZBx hw2,Result.andThen_ok,ZCs hw2,Sem.run_pure]
 ·exact⟨ι2,.bool j.isNone,rfl,.bool _,hset2.1,(ad1.trans hset.2).trans (ad2.trans hset2.2)⟩
section
variable {ev:Ev}{fr:Fr}{ops:Array Oper}{o:Oper}{e e':Env}{ds ds':List ADef}{h h':Heap}{x:ZDK}{w:World}{a:Act}{F:Fence}{i:Nat}{K:Act->World->Prop}{Q:Exit->Act->World->Prop}
structure ZR3 (V:Nat->Nat->Bool)(fr:Fr)(o:Oper)(a:Act) (ι:Iota)(h:Heap)(w:World)(x:ZDK)(e':Env)(ds':List ADef)(h':Heap)(K:Act->World->Prop)(Q:Exit->Act->World->Prop):Prop where
 normal:x=.normal->∀(ι':Iota) (v':Value) (a':Act) (w':World),a'.tmps=(a.put o.dst v').tmps->Adv ι h w ι' h' w'->HR ι' h' w'.heap->FR V fr ι' e' ds' a'->K a' w'
 pan:∀v,x=.pan v->∀(ι':Iota) (v':Value) (w':World),Adv ι h w ι' h' w'->HR ι' h' w'.heap->FR V fr ι' e' ds' a->VR ι' v v'->Q (.panic [{ v:=v',recovered:=false }]) a w'
theorem ZSh {a a0:Act}(h:a.tmps=a0.tmps)(d:Option Tmp)(v:Value):(a.put d v).tmps=(a0.put d v).tmps:=by
 cases d <;> simp[Act.put,h]
theorem ZCT {v v':Value}(hs:fin V fr o v e ds h=.ok x e' ds' h') {ι1:Iota}{h0:Heap}{w0 w1:World}{a0:Act}(h00:a.tmps=a0.tmps)(ha:Adv ι h0 w0 ι1 h w1)(hr:HR ι1 h w1.heap)(hf:FR V fr ι1 e ds a)(hv:VR ι1 v v')
  (hT:ZR3 V fr o a0 ι h0 w0 x e' ds' h' K Q):K (a.put o.dst v') w1:=by
 unfold fin at hs
 split at hs
 ·rename_i e1 hp
  simp only[CR.ok.injEq] at hs;obtain⟨rfl,rfl,rfl,rfl⟩:=hs;exact hT.normal rfl ι1 v' _ w1 (ZSh h00 _ _) ha hr (hf.put hv hp)
 ·cases hs
theorem ZHE (hF:FenR ι fr.rd F)(hnd:∀c,o.op≠.defer c)(hr:HR ι h w.heap)(hf:FR V fr ι e ds a){v:Value}{h1:Heap}(hO:OpS P ι h w (execOp a.eval o) v h1)
  (hs:fin V fr o v e ds h1=.ok x e' ds' h') (hT:ZR3 V fr o a ι h w x e' ds' h' K Q):o.wpIn F 0 P a w K Q:=by
 obtain⟨ι',v',w',hrun,hv,hr',ha⟩:=hO;refine⟨fun f _=>hF.fn f,?_⟩;rw[Oper.semAt_eq _ _ _ hnd]
 rcases hrun with hrun|⟨hrun,rfl⟩
 ·rw[hrun,Oper.uponIn_value]
  exact ZCT hs rfl ha hr' (hf.mono ha.sub) hv hT
 ·rw[hrun,Oper.uponIn_skip]
  exact ZCT hs rfl ha hr' (hf.mono ha.sub) hv hT
theorem ZOz (hev:EvOK P V ev)(hs:evDo P V ev fr o e ds h=.ok x e' ds' h')(hr:HR ι h w.heap)(hf:FR V fr ι e ds a)(hF:FenR ι fr.rd F)(hT:ZR3 V fr o a ι h w x e' ds' h' K Q) :
  o.wpIn F 0 P a w K Q:=by
 have hA:∀(hnd:∀c,o.op≠.defer c) (r:AR),finA V fr o r e ds=.ok x e' ds' h'->(∀v h1,r=.ok v h1->OpS P ι h w (execOp a.eval o) v h1)->o.wpIn F 0 P a w K Q:=by
  intro hnd r hfa hO;unfold finA at hfa
  split at hfa
  ·rename_i v h1
   exact ZHE hF hnd hr hf (hO v h1 rfl) hfa hT
  ·cases hfa
 unfold evDo at hs
 split at hs
 ·rename_i c hc
  have hnd:∀c',o.op≠.defer c':=fun c' he=>by rw[hc] at he;cases he
  have hex:(execOp a.eval o).run P w=(do let d <-resolve a.eval c o.type;invoke d.target d.args:Sem Next).run P w:=by unfold execOp;rw[hc]
  unfold ZNl at hs;cases hbi:ZCR c.callee
  ·rw[hbi] at hs
   simp only at hs
   split at hs
   ·rename_i g args hcall
    obtain⟨args',hva,hrun⟩:=ZDu (P:=P) hr hf.env hcall o.type;refine⟨fun f _=>hF.fn f,?_⟩;rw[Oper.semAt_eq _ _ _ hnd,hex,hrun,Oper.uponIn_enter];refine⟨(fun hd=>by rw[hF.depth] at hd;cases hd),?_⟩;unfold finV at hs
    split at hs
    ·rename_i v h1 hev1
     refine hF.calls ((hev.call hev1 (by simp) hr hva).mono ?_);rintro en w1 ⟨ι1,v',rfl,hv,hr1,ha⟩;exact ZCT hs rfl ha hr1 (hf.mono ha.sub) hv hT
    ·rename_i v h1 hev1
     simp only[CR.ok.injEq] at hs;obtain⟨rfl,rfl,rfl,rfl⟩:=hs;refine hF.calls ((hev.call hev1 (by simp) hr hva).mono ?_);rintro en w1 ⟨ι1,v',rfl,hv,hr1,ha⟩;exact hT.pan v rfl ι1 v' w1 ha hr1 (hf.mono ha.sub) hv
    ·cases hs
   ·rename_i l args hcall
    obtain⟨bi,args',hi,hva,hrun⟩:=ZEy (P:=P) hr hf.env hcall o.type;unfold finV at hs
    split at hs
    ·rename_i v h1 hev1
     obtain⟨fn,tmps,asg,bd,hy,hround⟩:=ZFl (P:=P) hev hev1 (by simp) hr hi hva hF;refine⟨fun f _=>hF.fn f,?_⟩;rw[Oper.semAt_eq _ _ _ hnd,hex,hrun,hy,Oper.uponIn_round];refine⟨(fun hd=>by rw[hF.depth] at hd;cases hd),hround.mono ?_⟩;rintro en w1 ⟨ι1,v',rfl,hv,hr1,ha⟩;exact ZCT hs rfl ha hr1 (hf.mono ha.sub) hv hT
    ·rename_i v h1 hev1
     simp only[CR.ok.injEq] at hs;obtain⟨rfl,rfl,rfl,rfl⟩:=hs;obtain⟨fn,tmps,asg,bd,hy,hround⟩:=ZFl (P:=P) hev hev1 (by simp) hr hi hva hF;refine⟨fun f _=>hF.fn f,?_⟩;rw[Oper.semAt_eq _ _ _ hnd,hex,hrun,hy,Oper.uponIn_round];refine⟨(fun hd=>by rw[hF.depth] at hd;cases hd),hround.mono ?_⟩;rintro en w1 ⟨ι1,v',rfl,hv,hr1,ha⟩;exact hT.pan v rfl ι1 v' w1 ha hr1 (hf.mono ha.sub) hv
    ·cases hs
   ·exact hA hnd _ hs fun v h1 hq=>ZHY hr hf.env hq
  ·rw[hbi] at hs
   exact hA hnd _ hs fun v h1 hq=>ZEJ hr hf.env hq
 ·rename_i c hc
  unfold ZJv at hs
  split at hs
  ·rename_i f hrd hcal
   split at hs
   ·rename_i g first cap args h1 h2
    cases hb:ZAp P g
    ·rw[hb] at hs;cases hs
    rw[hb] at hs;simp only at hs;have hv:=ZAH hr hf.env h1;have hl:=ZDg hr hf.env h2;generalize hz:a.eval f=z at hv
    cases hv with
    | fn _ hfirst hcap =>
     rename_i first' cap';refine⟨fun f _=>hF.fn f,?_⟩;have hro:F.round=none:=(hF.round).2 hrd;rw[hro,Oper.semAt_none];have hrun:(execOp a.eval o).run P w=.ok (.defer { target:=.fn (.func g) cap',args:=first'++c.args.map a.eval }) w:=by
      unfold execOp;rw[hc];simp only[resolve,hcal,hz,Deferred.ofValue,Sem.run_bind,Sem.run_pure,Result.andThen_ok]
     rw[hrun,Oper.uponIn_defer]
     have hf2:FR V fr ι e (.fn g (first++args) cap::ds) { a with defers:={ target:=.fn (.func g) cap',args:=first'++c.args.map a.eval }::a.defers }:=by
      refine⟨hf.env,hf.ei,hf.sz,.fn g ?_ hcap hf.df⟩;have:(first'++c.args.map a.eval).toList=first'.toList++c.args.toList.map a.eval:=by simp
      rw[this];exact hfirst.append hl
     exact ZCT (a0:=a) hs rfl (.refl _ _ _) hr hf2 (.tup .nil) hT
   ·cases hs
  ·cases hs
 ·rename_i y hy
  unfold ZKN at hs
  split at hs
  ·rename_i t v hv0
   simp only[CR.ok.injEq] at hs;obtain⟨rfl,rfl,rfl,rfl⟩:=hs;have hv:=ZAH hr hf.env hv0;generalize hz:a.eval y=z at hv
   cases hv with
   | iface _ hv1 =>
    rename_i v';refine⟨fun f _=>hF.fn f,?_⟩;rw[Oper.semAt_eq _ _ _ (fun c he=>by rw[hy] at he;cases he)];have hrun:(execOp a.eval o).run P w=.halt (.panic (.iface t v')) w:=by
     unfold execOp;rw[hy];simp[hz,Instr.panic]
    rw[hrun,Oper.uponIn_panic];exact hT.pan _ rfl ι _ w (.refl _ _ _) hr hf (.iface t hv1)
  ·cases hs
 ·rename_i hnc hndf hnp
  exact hA (fun c he=>hndf c he) _ hs fun v h1 hq=>ZEJ hr hf.env hq
theorem ZI1 (hev:EvOK P V ev)(ho:ops[i]?=some o)(hs:evOp P V ev fr ops.toList o e ds h=.ok x e' ds' h')(hr:HR ι h w.heap)(hf:FR V fr ι e ds a)(hF:FenR ι fr.rd F)
  (hT:ZR3 V fr o a ι h w x e' ds' h' K Q):wpOpIn F 0 P ops Q i K a w:=by
 unfold evOp at hs;unfold wpOpIn;simp only[ho]
 split at hs
 ·rename_i hg
  rw[ZBI hf hg];simp only[if_true];exact ZOz hev hs hr hf hF hT
 ·rename_i hg
  rw[ZBI hf hg];simp only[Bool.false_eq_true,if_false];exact⟨fun f _=>hF.fn f,ZCT hs rfl (.refl _ _ _) hr hf (.tup .nil) hT⟩
 ·cases hs
end
variable {P:Program}{V:Nat->Nat->Bool} {ι:Iota}
section
variable {ev:Ev}{fr:Fr}{ops:Array Oper}
theorem ZJZ.then {h h1 h':Heap} {ι1:Iota}{w w1:World}{x:ZDK}{e':Env}{ds':List ADef}{K:Act->World->Prop}(hx:x≠.normal)(ha:Adv ι h w ι1 h1 w1){ex:Exit}{a':Act}{w':World}
  (hp:ZJZ V fr ι1 h1 w1 x e' ds' h' ex a' w'):Exit.then K (ZJZ V fr ι h w x e' ds' h') ex a' w':=by
 have hp':=hp.trans ha;obtain⟨ι',_,_,_,a4⟩:=hp
 cases a4 with
 | normal=>exact absurd rfl hx
 | exit id=>exact hp'
 | goto l=>exact hp'
 | ret=>exact hp'
 | pan hv=>exact hp'
theorem FenR.roundEq {rd:Option Nat}{F:Fence}(h:FenR ι rd F):(rd=none/\F.round=none)\/∃l bi,rd=some l/\ι l=some bi/\F.round=some bi.blk:=by
 cases rd with
 | none=>rw[h];exact .inl ⟨rfl,rfl⟩
 | some l=>obtain⟨bi,h1,rfl⟩:=h;exact .inr ⟨l,bi,rfl,h1,rfl⟩
end
variable {P:Program}{V:Nat->Nat->Bool} {ι:Iota}
theorem ZMi {fr:Fr}{tmps:Array Value}:∀(l:List Value)(i:Nat)(e:Env),EnvR ι e tmps->EI V fr.fn e->(∀j v,l[j]?=some v->∃v',tmps[i+j]?=some v'/\VR ι v v') →
  EnvR ι (ZLU V fr i l e) tmps/\EI V fr.fn (ZLU V fr i l e):=by
 intro l
 induction l with
 | nil=>intro i e he hi _;exact⟨he,hi⟩
 | cons x l ih =>
  intro i e he hi h;refine ih (i+1) _ ?_ (hi.putE i x) (fun j v hv=>?_)
  ·intro t v hv
   rw[ZBy hi] at hv
   by_cases e1:i=t
   ·subst e1
    simp at hv;subst hv;exact h 0 x rfl
   ·simp[e1] at hv
    exact he t v hv
  ·have:=h (j+1) v (by simpa using hv)
   rw[show i+1+j=i+(j+1) by omega];exact this
theorem ZNu {fr:Fr}{args:List Value}{args':Array Value}(hv:VRL ι args args'.toList)(hle:args.length<=fr.nt) :
  FR V fr ι (ZLU V fr 0 args ⟨[],[]⟩) [] { tmps:=args'++Array.replicate (fr.nt-args'.size) undef,defers:=[] }:=by
 have hl:=hv.length;simp only[Array.length_toList] at hl
 have:=ZMi (V:=V) (fr:=fr) (tmps:=args'++Array.replicate (fr.nt-args'.size) undef) args 0 ⟨[],[]⟩ (EnvR.nil _ _) ⟨(fun p hp=>nomatch hp),(fun p hp=>nomatch hp)⟩ (fun j v hj=>by
  obtain⟨v',h1,h2⟩:=hv.get j v hj;refine⟨v',?_,h2⟩;have hlt:j<args'.size:=by have:=(List.getElem?_eq_some_iff.1 h1).1;simpa using this
  rw[Nat.zero_add,Array.getElem?_append_left hlt]
  simpa using h1)
 exact⟨this.1,this.2,by simp;omega,.nil⟩
theorem ZM1 {h:Heap}{w:World}{e:Env}{tmps:Array Value}(hr:HR ι h w.heap)(he:EnvR ι e tmps){r:ResultVar}{v:Value}(hs:ZO5 P h e r=some v) :
  ∃v',(match r with|.tmp t=>pure (tmps.getD t undef)|.cell a t=>do loadVar t (<-asAddr (tmps.getD a undef)):Sem Value).run P w=.ok v' w/\VR ι v v':=by
 unfold ZO5 at hs
 split at hs
 ·rename_i t
  obtain⟨v',h1,h2⟩:=he t v hs;refine⟨v',?_,h2⟩;simp[h1]
 ·rename_i ad t
  split at hs
  ·rename_i p hp
   obtain⟨p',h1,h2⟩:=he ad p hp;obtain⟨v',g1,g2⟩:=ZHd (P:=P) hr h2 hs;refine⟨v',?_,g2⟩;unfold ZFI at hs
   split at hs
   ·cases h2 with
    | ptr hb =>
     simp only[Instr.loadAt,Instr.sureAddr,Sem.run_bind,Sem.run_pure,Result.andThen_ok] at g1;simp only[Array.getD_eq_getD_getElem?,h1,Option.getD_some,asAddr,Sem.run_bind,Sem.run_pure,Result.andThen_ok];exact g1
   ·cases hs
  ·cases hs
theorem ZOb {h:Heap}{w:World}{e:Env}{tmps:Array Value}(hr:HR ι h w.heap)(he:EnvR ι e tmps):∀{l:List ResultVar}{vs:List Value},resL P h e l=some vs →
  ∃vs',(l.mapM (m:=Sem) fun|.tmp t=>pure (tmps.getD t undef)|.cell a t=>do loadVar t (<-asAddr (tmps.getD a undef))).run P w=.ok vs' w/\VRL ι vs vs':=by
 intro l
 induction l with
 | nil=>intro vs hs;cases hs;exact⟨[],by simp,.nil⟩
 | cons r l ih =>
  intro vs hs;simp only[resL] at hs
  split at hs
  ·rename_i v vs1 h1 h2
   cases hs;obtain⟨v',a1,a2⟩:=ZM1 (P:=P) hr he h1;obtain⟨vs',b1,b2⟩:=ih h2;refine⟨v'::vs',?_,.cons a2 b2⟩;simp only[List.mapM_cons,Sem.run_bind,a1,Result.andThen_ok,b1,Sem.run_pure]
  ·cases hs
theorem ZR8 (vs:List Value):ZHX vs=(if h:vs.toArray.size=1 then vs.toArray[0] else .tuple vs.toArray):=by
 match vs with
 | []=>rfl
 | [v]=>rfl
 | v::w::l=>simp[ZHX]
theorem ZCf {fn:Func}{h:Heap}{w:World}{e:Env}{tmps:Array Value}(hr:HR ι h w.heap)(he:EnvR ι e tmps){vs:List Value}(hs:resL P h e fn.results.toList=some vs) :
  ∃v',(results fn tmps).run P w=.ok v' w/\VR ι (ZHX vs) v':=by
 obtain⟨vs',h1,h2⟩:=ZOb (P:=P) hr he hs;refine⟨ZHX vs',?_,?_⟩
 ·unfold results
  rw[Array.mapM_eq_mapM_toList,Sem.run_bind,Sem.run_map];refine (congrArg (fun r=>(Result.andThen r _).andThen _) h1).trans ?_;simp only[Result.andThen_ok,Sem.run_pure];rw[ZR8]
 ·match h2 with
  | .nil=>exact .tup .nil
  | .cons a .nil=>exact a
  | .cons a (.cons b c)=>exact .tup (.cons a (.cons b c))
inductive RCR (ι:Iota):RC->FrameMode->Prop where
 | none:RCR ι .none .returning
 | some {v v':Value}:VR ι v v'->RCR ι (.some v) (.panicking [{ v:=v',recovered:=false }])
 | done (v':Value):RCR ι .done (.panicking [{ v:=v',recovered:=true }])
theorem RCR.mono {ι':Iota}(hs:Sub ι ι'){rc:RC}{u:FrameMode}(h:RCR ι rc u):RCR ι' rc u:=by
 cases h with
 | none=>exact .none
 | some h=>exact .some (h.mono hs)
 | done v=>exact .done v
def ZPi (V:Nat->Nat->Bool)(fr:Fr) (ι:Iota)(h:Heap)(w:World)(c0:Frame)(cs0:List Frame)(x:ZDK)(e':Env)(rc':RC)(h':Heap):Exit->Act->List Frame->World->Prop:=fun ex a' cs' w' =>
 ∃ι' u',cs'={ c0 with mode:=u' }::cs0/\RCR ι' rc' u'/\Adv ι h w ι' h' w'/\HR ι' h' w'.heap/\FR V fr ι' e' [] a'/\XR ι' x ex
theorem ZL5 (fr:Fr)(ops:List Oper)(o:Oper)(l:List Oper)(e:Env)(rc:RC)(h:Heap):ZH1 P V fr ops (o::l) e rc h =
   match gd ops o e with
   | some true =>
    @Bool.casesOn (fun _=>Option (Env×RC×Heap)) (ZDi o.op)
     (match finA V fr o (aop P o h e) e [] with
      | .ok .normal e [] h=>ZH1 P V fr ops l e rc h
      | _=>none)
     (match ZUR V fr o e rc with
      | some (e,rc)=>ZH1 P V fr ops l e rc h
      | none=>none)
   | some false=>match put V fr o (.tuple ⟨[]⟩) e with
    | some e=>ZH1 P V fr ops l e rc h
    | none=>none
   | none=>none:=rfl
theorem ZL1 {fr:Fr}{ops:Array Oper} {ι0:Iota}{h0:Heap}{w0:World}{c0:Frame}{cs0:List Frame}{e':Env}{rc':RC}{h':Heap}:∀(l:List Oper)(k:Nat),ops.toList.drop k=l →
  ∀(e:Env) (rc:RC) (h:Heap) (ι:Iota) (w:World) (a:Act) (u:FrameMode),ZH1 P V fr ops.toList l e rc h=some (e',rc',h')->HR ι h w.heap->FR V fr ι e [] a->RCR ι rc u →
  Adv ι0 h0 w0 ι h w->wpOpsS P ops (ZPi V fr ι0 h0 w0 c0 cs0 .normal e' rc' h') (List.range' k l.length) a ({ c0 with mode:=u }::cs0) w:=by
 intro l
 induction l with
 | nil =>
  intro k hk e rc h ι w a u hs hr hf hc ha;simp only[ZH1,Option.some.injEq,Prod.mk.injEq] at hs;obtain⟨rfl,rfl,rfl⟩:=hs;exact⟨ι,u,rfl,hc,ha,hr,hf,.normal⟩
 | cons o l ih =>
  intro k hk e rc h ι w a u hs hr hf hc ha;have ho:ops[k]?=some o:=by
   have:ops.toList[k]?=some o:=by
    have h1:(ops.toList.drop k)[0]?=some o:=by rw[hk];rfl
    rw[List.getElem?_drop] at h1;simpa using h1
   simpa using this
  have hk':ops.toList.drop (k+1)=l:=by
   have:(ops.toList.drop k).drop 1=l:=by rw[hk];rfl
   rw[List.drop_drop] at this;exact this
  rw[List.length_cons,List.range'_succ];rw[ZL5] at hs;simp only[wpOpsS,ho]
  split at hs
  ·rename_i hg
   rw[ZBI hf hg];simp only[if_true];cases hrec:ZDi o.op
   ·rw[hrec] at hs
    simp only at hs
    split at hs
    ·rename_i e1 h1 hfa
     unfold finA at hfa
     split at hfa
     ·rename_i v h2 hop
      obtain⟨ι',v',w',hrun,hv,hr',ha'⟩:=ZEJ (P:=P) hr hf.env hop;unfold fin at hfa
      split at hfa
      ·rename_i e2 hp
       simp only[CR.ok.injEq,true_and] at hfa;obtain⟨rfl,rfl⟩:=hfa;have hf':=(hf.mono ha'.sub).put hv hp
       rcases hrun with hrun|⟨hrun,rfl⟩
       ·rw[hrun]
        exact ih (k+1) hk' _ rc _ ι' w' _ u hs hr' hf' (hc.mono ha'.sub) (ha.trans ha')
       ·rw[hrun]
        exact ih (k+1) hk' _ rc _ ι' w' _ u hs hr' hf' (hc.mono ha'.sub) (ha.trans ha')
      ·cases hfa
     ·cases hfa
    ·cases hs
   ·rw[hrec] at hs
    simp only at hs;have hrun:(execOp a.eval o).run P w=.ok .recover w:=by
     unfold ZDi at hrec
     split at hrec
     ·rename_i c hcop
      split at hrec
      ·rename_i hcal
       unfold execOp;rw[hcop];simp only[resolve,hcal,Sem.run_bind,Sem.run_pure,Result.andThen_ok,invoke,builtin]
      ·cases hrec
     ·cases hrec
    rw[hrun];simp only;unfold ZUR at hs
    cases hc with
    | none =>
     simp only at hs
     split at hs
     ·rename_i e1 rc1 hp0
      split at hp0
      ·rename_i e2 hp
       cases hp0;simp only[recoverD];exact ih (k+1) hk' _ _ _ ι w _ _ hs hr (hf.put .nilIface hp) .none ha
      ·cases hp0
     ·cases hs
    | some hv =>
     rename_i v v';simp only at hs
     split at hs
     ·rename_i e1 rc1 hp0
      split at hp0
      ·rename_i e2 hp
       cases hp0;simp only[recoverD];exact ih (k+1) hk' _ _ _ ι w _ _ hs hr (hf.put hv hp) (.done v') ha
      ·cases hp0
     ·cases hs
    | done v' =>
     simp only at hs
     split at hs
     ·rename_i e1 rc1 hp0
      split at hp0
      ·rename_i e2 hp
       cases hp0;simp only[recoverD];exact ih (k+1) hk' _ _ _ ι w _ _ hs hr (hf.put .nilIface hp) (.done v') ha
      ·cases hp0
     ·cases hs
  ·rename_i hg
   rw[ZBI hf hg];simp only[Bool.false_eq_true,if_false]
   split at hs
   ·rename_i e1 hp
    exact ih (k+1) hk' _ _ _ ι w _ u hs hr (hf.put (.tup .nil) hp) hc ha
   ·cases hs
  ·cases hs
theorem ZRp {ev:Ev}(hev:EvOK P V ev){fr:Fr}(hrd:fr.rd=none){c:Code}{e:Env}{h:Heap}{x:ZDK}{e':Env}{h':Heap}(hs:ev.code fr c e [] h=.ok x e' [] h') {ι0:Iota}{h0:Heap}{w0 w:World}{a:Act}{c0:Frame}{cs0:List Frame}{rc:RC}{u:FrameMode}
  (hr:HR ι h w.heap) (hf:FR V fr ι e [] a) (hc:RCR ι rc u) (ha:Adv ι0 h0 w0 ι h w):c.wpS P (ZPi V fr ι0 h0 w0 c0 cs0 x e' rc h') a ({ c0 with mode:=u }::cs0) w:=by
 have hF:FenR ι fr.rd Fence.wide:=by rw[hrd];rfl
 refine wpS_of_wp (wpIn_wide.1 (wpIn_mono (hev.code hs hr hf hF) ?_));rintro ex a1 w1 ⟨ι1,ad,hr1,hf1,hx⟩;exact⟨ι1,u,rfl,hc.mono ad.sub,ha.trans ad,hr1,hf1,hx⟩
theorem ZPz {ev:Ev}(hev:EvOK P V ev){fr:Fr}(hrd:fr.rd=none) {ι0:Iota}{h0:Heap}{w0:World}{c0:Frame}{cs0:List Frame}:∀(c:Code)(e:Env)(rc:RC)(h:Heap)(x:ZDK)(e':Env)(rc':RC)(h':Heap) (ι:Iota)(w:World)(a:Act)(u:FrameMode),
  evS P V ev fr c e rc h=some (x,e',rc',h')->HR ι h w.heap->FR V fr ι e [] a->RCR ι rc u->Adv ι0 h0 w0 ι h w->c.wpS P (ZPi V fr ι0 h0 w0 c0 cs0 x e' rc' h') a ({ c0 with mode:=u }::cs0) w:=by
 have gen:∀(c:Code) (e:Env) (rc:RC) (h:Heap) (x:ZDK) (e':Env) (rc':RC) (h':Heap) (ι:Iota) (w:World) (a:Act) (u:FrameMode),
   (match ev.code fr c e [] h with|.ok x e [] h=>some (x,e,rc,h)|_=>none)=some (x,e',rc',h')->HR ι h w.heap->FR V fr ι e [] a->RCR ι rc u->Adv ι0 h0 w0 ι h w →
   c.wpS P (ZPi V fr ι0 h0 w0 c0 cs0 x e' rc' h') a ({ c0 with mode:=u }::cs0) w:=by
  intro c e rc h x e' rc' h' ι w a u hs hr hf hc ha
  split at hs
  ·rename_i x1 e1 h1 hcode
   simp only[Option.some.injEq,Prod.mk.injEq] at hs;obtain⟨rfl,rfl,rfl,rfl⟩:=hs;exact ZRp hev hrd hcode hr hf hc ha
  ·cases hs
 intro c
 induction c with
 | seq c1 c2 ih1 ih2 =>
  intro e rc h x e' rc' h' ι w a u hs hr hf hc ha;simp only[evS] at hs;refine wpS_seq ?_
  split at hs
  ·rename_i e1 rc1 h1 hs1
   have:=ih1 e rc h .normal e1 rc1 h1 ι w a u hs1 hr hf hc ha;intro b k hb hro;obtain⟨ex,a1,cs1,w1,⟨ι1,u1,rfl,hc1,ad1,hr1,hf1,hx1⟩,harr⟩:=this b k hb hro;cases hx1;exact⟨.normal,a1,_,w1,ih2 e1 rc1 h1 x e' rc' h' ι1 w1 a1 u1 hs hr1 hf1 hc1 ad1,harr⟩
  ·rename_i hne
   have:=ih1 e rc h x e' rc' h' ι w a u hs hr hf hc ha;intro b k hb hro;obtain⟨ex,a1,cs1,w1,hq,harr⟩:=this b k hb hro;refine⟨ex,a1,cs1,w1,?_,harr⟩;have hq0:=hq;obtain⟨ι1,u1,_,_,_,_,_,hx1⟩:=hq
   cases hx1 with
   | normal=>exact absurd hs (hne _ _ _)
   | exit id=>exact hq0
   | goto l=>exact hq0
   | ret=>exact hq0
   | pan hv=>exact hq0
 | cond c1 c2 c3 ih1 ih2 =>
  intro e rc h x e' rc' h' ι w a u hs hr hf hc ha;simp only[evS] at hs
  split at hs
  ·rename_i hq
   have hv:=(ZAH hr hf.env hq).flat_eq rfl;exact wpS_cond (t:=true) hv (ih1 e rc h x e' rc' h' ι w a u hs hr hf hc ha)
  ·rename_i hq
   have hv:=(ZAH hr hf.env hq).flat_eq rfl;exact wpS_cond (t:=false) hv (ih2 e rc h x e' rc' h' ι w a u hs hr hf hc ha)
  ·cases hs
 | region i ops draw =>
  intro e rc h x e' rc' h' ι w a u hs hr hf hc ha
  cases draw with
  | false =>
   simp only[evS] at hs;cases hany:ops.toList.any fun o=>ZDi o.op
   ·rw[hany] at hs
    exact gen _ e rc h x e' rc' h' ι w a u hs hr hf hc ha
   ·rw[hany] at hs
    simp only at hs
    split at hs
    ·rename_i e1 rc1 h1 hops
     simp only[Option.some.injEq,Prod.mk.injEq] at hs;obtain⟨rfl,rfl,rfl,rfl⟩:=hs;refine wpS_region ?_;have:=ZL1 (P:=P) (V:=V) (c0:=c0) (cs0:=cs0) ops.toList 0 rfl _ rc h ι w a u hops hr hf.clear hc ha;rw[List.range_eq_range']
     simpa using this
    ·cases hs
  | true=>exact gen _ e rc h x e' rc' h' ι w a u hs hr hf hc ha
 | _ =>
  intro e rc h x e' rc' h' ι w a u hs hr hf hc ha;exact gen _ e rc h x e' rc' h' ι w a u hs hr hf hc ha
variable {P:Program}{V:Nat->Nat->Bool} {ι:Iota}
theorem ZNn {c:Code}{Q Q':Exit->Act->List Frame->World->Prop}{a:Act}{cs:List Frame}{w:World}(h:c.wpS P Q a cs w)(hq:∀e a cs w,Q e a cs w->Q' e a cs w):c.wpS P Q' a cs w :=
 fun b k hb hr=>let ⟨e,a',cs',w',q,r⟩:=h b k hb hr;⟨e,a',cs',w',hq _ _ _ _ q,r⟩
theorem ZES {n:Nat}{f:FuncId}{fn:Func}{c:Code}{args:Array Value}{u:FrameMode}{w:World}{R:Ending->FrameMode->World->Prop}
  (hf:P.funcs[f]?=some fn) (hb:fn.body=some c)
  (h:∀(c₀:Frame) (cs:List Frame),c₀.mode=u →
   c.wpS P (bodyPostS P fn c₀ cs R) { tmps:=args++Array.replicate (fn.ntmps-args.size) undef,defers:=[] } (c₀::cs) w) :
  CallsDIn Fence.wide n P f args u w R:=by
 refine⟨trivial,fun c₀ cs hu _=>?_⟩
 let b:Frame:={ (default:Frame) with fn:=f,kind:=.deferred }
 have henter:Frame.enter P f args .deferred =
   b.at { tmps:=args++Array.replicate (fn.ntmps-args.size) undef,defers:=[] } [.code c]:=by
  simp[Frame.enter,Frame.at,hf,hb,b]
 obtain⟨e,a',cs',w',hq,harr⟩:=h c₀ cs hu b [] rfl rfl;rw[<-henter] at harr
 cases e with
 | normal =>
  obtain⟨hd,u',rfl,v,hr,hR⟩:=hq;exact⟨.returned v,u',w',_,hR,comesIn_wide.2 (Steps.trans harr (.one step_end)),rfl,rfl,rfl,hd,fn,hf,hr⟩
 | ret =>
  obtain⟨hd,u',rfl,v,hr,hR⟩:=hq;obtain⟨todo,hs⟩:=harr;exact⟨.returned v,u',w',_,hR,comesIn_wide.2 hs,rfl,rfl,rfl,hd,fn,hf,hr⟩
 | panic chain =>
  obtain⟨hd,u',rfl,hR⟩:=hq;obtain⟨todo,hs⟩:=harr;exact⟨.panicked chain,u',w',_,hR,comesIn_wide.2 hs,rfl,rfl,rfl,hd,fn,hf⟩
 | exit id=>exact hq.elim
 | goto l=>exact hq.elim
 | outgrown =>
  obtain⟨u',hR⟩:=hq;exact⟨.outgrown,u',w',b,hR,comesIn_wide.2 (harr.resolve_left (by simp[b])),rfl,rfl,trivial⟩
theorem HR.drop {h:Heap}{w:World}(hr:HR ι h w.heap){b:Nat}{o:AO}{bi:BI}(hg:h.get b=some o)(hi:ι b=some bi)(o':Obj)(hu:unfz o') :
  HR ι (h.del b) (w.heap.setIfInBounds bi.blk o')/\Adv ι h w ι (h.del b) { w with heap:=w.heap.setIfInBounds bi.blk o' }:=by
 obtain⟨hd,ad⟩:=hr.del b;have hne:∀c x bi',(h.del b).get c=some x->ι c=some bi'->bi.blk≠bi'.blk:=by
  intro c x bi' hx hi' he;have hcb:c≠b:=by
   intro e;subst e;rw[Heap.get_del_same] at hx;cases hx
  rw[Heap.get_del_other hcb] at hx;exact hcb (hr.inj b c o x bi bi' hg hx hi hi' he).symm
 refine⟨⟨?_,hd.inj,hd.fresh,hd.glo,hd.gn⟩,⟨ad.sub,by simp,?_,ad.dm,ad.nx,ad.old,ad.gl,rfl,rfl,fun _=>⟨rfl,Nat.le_refl _⟩⟩⟩
 ·intro c x hx
  obtain⟨bi',x',h1,h2,h3⟩:=hd.obj c x hx;exact⟨bi',x',h1,by rw[Array.getElem?_setIfInBounds_ne (hne c x bi' hx h1)];exact h2,h3⟩
 ·intro c hc hn
  have:bi.blk≠c:=fun he=>hn ⟨b,o,bi,hg,hi,he⟩;rw[Array.getElem?_setIfInBounds_ne this]
def rest:RC->RC
 | .done=>.none
 | r=>r
theorem RCR.settle {rc:RC}{u:FrameMode}(h:RCR ι rc u):RCR ι (rest rc) (settle u):=by
 cases h with
 | none=>exact .none
 | some h=>exact .some h
 | done v=>exact .none
theorem ZQJ (rc:RC):rest rc≠.done:=by cases rc <;> simp[rest]
theorem ZFG {ev:Ev}(hev:EvOK P V ev){fn:Func}{e:Env}{tmps:Array Value} {ι0:Iota}{h0:Heap}{w0:World}{r:VS}(hne:r≠.no) :
  ∀(ds:List ADef) (rc:RC) (h:Heap) (ι:Iota) (w:World) (l:List Deferred) (u:FrameMode),ZDD P V ev fn e ds rc h=r->rc≠.done->HR ι h w.heap->EnvR ι e tmps->DR ι ds l->RCR ι rc u →
   Adv ι0 h0 w0 ι h w->LeavesInM Fence.wide 0 P fn tmps (ZFA ι0 h0 w0 r) l u w:=by
 intro ds
 induction ds with
 | nil =>
  intro rc h ι w l u hs hrc hr he hd hc ha;cases hd
  cases hc with
  | done=>exact absurd rfl hrc
  | some hv =>
   simp only[ZDD] at hs;subst hs;exact⟨ι,_,rfl,hv,hr,ha⟩
  | none =>
   simp only[ZDD] at hs
   split at hs
   ·rename_i vs hvs
    subst hs;obtain⟨v',h1,h2⟩:=ZCf (P:=P) (fn:=fn) hr he hvs;exact⟨v',h1,ι,v',rfl,h2,hr,ha⟩
   ·exact absurd hs.symm hne
 | cons d ds ih =>
  intro rc h ι w l u hs hrc hr he hd hc ha;have hu:u≠.run:=by cases hc <;> simp
  cases hd with
  | coll hi hd =>
   rename_i rr bi l;refine⟨hu,.inl ?_⟩;simp only[ZDD] at hs
   split at hs
   case h_2=>exact absurd hs.symm hne
   rename_i hg;obtain⟨bi',o',i1,i2,i3⟩:=hr.obj _ _ hg;rw[hi] at i1;cases i1;have ho:o'=.deferred (some []):=by
    cases o' with
    | deferred x=>cases x with
     | none=>simp only[OR] at i3
     | some l=>cases l with
      | nil=>rfl
      | cons=>simp only[OR] at i3
    | _=>simp only[OR] at i3
   subst ho;obtain⟨hr2,ad2⟩:=hr.drop hg hi (.deferred none) trivial
   refine⟨bi.blk,{ w with heap:=w.heap.setIfInBounds bi.blk (.deferred none) },rfl,?_,ih rc _ ι _ l u hs hrc hr2 he hd hc (ha.trans ad2)⟩
   simp[Instr.takeDeferred,getObj,setObj,Sem.run,i2]
  | fn f hargs hcap hd =>
   rename_i args cap args' cap' l;refine⟨hu,.inr ⟨(fun hd=>by cases hd),?_⟩⟩;simp only[ZDD] at hs
   split at hs
   case h_2=>exact absurd hs.symm hne
   rename_i g hg
   split at hs
   case h_2=>exact absurd hs.symm hne
   rename_i c hbody;cases hb:(ZAp P f && Nat.ble (args++cap).length g.ntmps)
   ·rw[hb] at hs;exact absurd hs.symm hne
   rw[hb] at hs;simp only[Bool.and_eq_true] at hb;simp only at hs;refine⟨_,_,f,args'++cap',rfl,?_,fun _ _=>trivial,?_⟩
   ·simp only[invoke]
    exact ZC7 hb.1 _ _
   have hva:VRL ι (args++cap) (args'++cap').toList:=by
    have:(args'++cap').toList=args'.toList++cap'.toList:=by simp
    rw[this];exact hargs.append hcap
   have hf0:=ZNu (V:=V) (fr:=⟨f,g.ntmps,none⟩) hva (Nat.le_of_ble_eq_true hb.2);refine ZES hg hbody fun c₀ cs hcu=>?_
   have hcc:c₀={ c₀ with mode:=u }:=by rw[<-hcu]
   have key:∀x e1 rc' h',evS P V ev ⟨f,g.ntmps,none⟩ c (ZLU V ⟨f,g.ntmps,none⟩ 0 (args++cap) ⟨[],[]⟩) rc h=some (x,e1,rc',h')->(x=.normal\/x=.ret) →
     (match resL P h' e1 g.results.toList with
      | some _=>ZDD P V ev fn e ds (match rc' with|.done=>.none|r=>r) h'
      | none=>.no)=r →
     c.wpS P (bodyPostS P g c₀ cs fun
     | .returned _,u',w'=>LeavesInM Fence.wide 0 P fn tmps (ZFA ι0 h0 w0 r) l (Go.settle u') w'
     | .panicked chain,u',w'=>LeavesInM Fence.wide 0 P fn tmps (ZFA ι0 h0 w0 r) l (raised u' chain) w'
     | .outgrown,_,w'=>ZFA ι0 h0 w0 r .outgrown w') { tmps:=(args'++cap')++Array.replicate (g.ntmps-(args'++cap').size) undef,defers:=[] } (c₀::cs) w:=by
    intro x e1 rc' h' hevs hx hs;have:=ZPz hev (fr:=⟨f,g.ntmps,none⟩) rfl (c0:=c₀) (cs0:=cs) c _ rc h x e1 rc' h' ι w _ u hevs hr hf0 hc (.refl _ _ _);rw[<-hcc] at this;refine ZNn this ?_;rintro ex a1 cs1 w1 ⟨ι1,u1,rfl,hc1,ad1,hr1,hf1,hx1⟩;have hdn:a1.defers=[]:=by have:=hf1.df;generalize a1.defers=q at this;cases this;rfl
    split at hs
    case h_2=>exact absurd hs.symm hne
    rename_i vs hvs;obtain⟨v',h1,h2⟩:=ZCf (P:=P) (fn:=g) hr1 hf1.env hvs;have hsub:Sub ι ι1:=ad1.sub;have hl:=ih (rest rc') h' ι1 w1 l (Go.settle u1) (by cases rc' <;> exact hs) (ZQJ _) hr1 (he.mono hsub) (hd.mono hsub) hc1.settle (ha.trans ad1)
    rcases hx with rfl|rfl
    ·cases hx1;exact⟨hdn,u1,rfl,v',h1,hl⟩
    ·cases hx1;exact⟨hdn,u1,rfl,v',h1,hl⟩
   split at hs
   ·rename_i e1 rc' h' hevs
    exact key _ e1 rc' h' hevs (.inl rfl) hs
   ·rename_i e1 rc' h' hevs
    exact key _ e1 rc' h' hevs (.inr rfl) hs
   ·exact absurd hs.symm hne
variable {P:Program}{V:Nat->Nat->Bool} {ι:Iota}
theorem ZDU {o:Oper}{h h':Heap}{e:Env}{v:Value}(hs:ZIC P o h e=.ok v h'):h'=h:=by
 unfold ZIC at hs;cases h1:ZUe o.op
 ·rw[h1] at hs
  cases h2:o.op.operands.toList.all (ZIJ h e)
  ·rw[h2] at hs;cases hs
  ·rw[h2] at hs
   simp only at hs
   split at hs
   ·rename_i v1 hp
    cases h3:flat v1
    ·rw[h3] at hs;cases hs
    ·rw[h3] at hs;cases hs;rfl
   ·cases hs
 ·rw[h1] at hs;cases hs
theorem ZOj {o:Oper}{h h':Heap}{e:Env}{v:Value}(hs:ZL3 P o h e=.ok v h'):h'=h:=by
 unfold ZL3 at hs
 split at hs
 ·rename_i hq;cases hs;exact ZDU hq
 ·exact ZQ5 hs
theorem ZGG {h h':Heap}{e:Env}{x:Operand}{v:Value}(hs:ZEt h e x=.ok v h'):h'=h:=by
 unfold ZEt at hs
 split at hs
 ·cases hs;rfl
 ·cases hs
theorem ZJu {o:Oper}{b:Builtin}{args:List Operand}{ts:List TypeId}{h h':Heap}{e:Env}{v:Value}(hb:b=.len\/b=.cap\/b=.min\/b=.max)(hs:ZCC P o b args ts h e=.ok v h'):h'=h:=by
 rcases hb with rfl|rfl|rfl|rfl <;> unfold ZCC at hs <;> split at hs <;> first|exact ZDU hs|contradiction|((repeat' split at hs) <;> cases hs;rfl)|cases hs
theorem ZS5 {o:Oper}{h h':Heap}{e:Env}{v:Value}(hq:ZD0 o.op=.pure)(hs:aop P o h e=.ok v h'):h'=h:=by
 obtain⟨dst,op,ty,pos,after,guard⟩:=o;unfold aop at hs
 cases op with
 | move x=>exact ZGG hs
 | pick c x y =>
  simp only[ZKw] at hs
  split at hs
  ·exact ZGG hs
  ·exact ZGG hs
  ·cases hs
 | build t ps=>simp only[ZGk] at hs;(repeat' split at hs) <;> cases hs;rfl
 | load t x=>simp only[ZKm] at hs;(repeat' split at hs) <;> cases hs;rfl
 | nilCheck x=>simp only[pNil] at hs;(repeat' split at hs) <;> cases hs;rfl
 | binOp op t x y z=>simp only[pBin] at hs;(repeat' split at hs) <;> first|(cases hs;rfl)|exact ZDU hs|cases hs
 | unOp op t x=>simp only[pUn] at hs;(repeat' split at hs) <;> first|(cases hs;rfl)|exact ZDU hs|cases hs
 | convert a b c=>exact ZOj hs
 | makeInterface t x=>simp only[ZI0] at hs;(repeat' split at hs) <;> cases hs;rfl
 | makeFunc fn x y=>simp only[ZOi] at hs;(repeat' split at hs) <;> cases hs;rfl
 | slice t x lo hi mx=>simp only[ZDB] at hs;(repeat' split at hs) <;> first|(cases hs;rfl)|exact ZDU hs|cases hs
 | fieldAddr t x f=>simp only[ZCi] at hs;(repeat' split at hs) <;> cases hs;rfl
 | field t x f=>simp only[ZJK] at hs;(repeat' split at hs) <;> cases hs;rfl
 | indexAddr t x i=>simp only[ZB2] at hs;(repeat' split at hs) <;> cases hs;rfl
 | index t x i=>simp only[ZGn] at hs;(repeat' split at hs) <;> cases hs;rfl
 | lookup t x k ok=>simp only[ZEG] at hs;(repeat' split at hs) <;> cases hs;rfl
 | typeAssert x t s ok=>simp only[ZGH] at hs;(repeat' split at hs) <;> cases hs;rfl
 | extract x i=>simp only[ZEl] at hs;(repeat' split at hs) <;> cases hs;rfl
 | call c =>
  simp only[ZEo] at hs;simp only[ZD0] at hq
  split at hs
  ·rename_i b hb
   rw[hb] at hq;refine ZJu (b:=b) ?_ hs;cases b <;> first|exact .inl rfl|exact .inr (.inl rfl)|exact .inr (.inr (.inl rfl))|exact .inr (.inr (.inr rfl))|cases hq
  ·cases hs
 | makeMap t r=>cases r <;> simp only[ZD0] at hq <;> cases hq
 | _=>simp only[ZD0] at hq;cases hq
mutual
theorem ZTO:∀{v w:Value},veq v w=true->v=w
 | .bool a,w,h=>by
  cases w <;> simp[veq] at h
  rw[h]
 | .int j a,w,h=>by
  cases w <;> simp[veq,ZQi] at h
  rw[h.1,h.2]
 | .string ⟨⟨a⟩⟩,w,h=>by
  cases w <;> simp only[veq] at h <;> try cases h
  rename_i s;obtain⟨⟨b⟩⟩:=s;simp[veq] at h;rw[h]
 | .pointer a,w,h=>by
  cases w with
  | pointer b=>cases a <;> cases b <;> simp[veq] at h <;> simp[h]
  | _=>cases a <;> simp[veq] at h
 | .slice a l c,w,h=>by
  cases w with
  | slice b l' c' =>
   cases a <;> cases b <;> simp[veq] at h
   ·rw[h.1,h.2]
   ·rw[h.1.1,h.1.2,h.2]
  | _=>cases a <;> simp[veq] at h
 | .map a,w,h=>by
  cases w with
  | map b =>
   cases a <;> cases b <;> simp[veq] at h
   ·rfl
   ·rw[h]
  | _=>cases a <;> simp[veq] at h
 | .func f ⟨a⟩ ⟨b⟩,w,h=>by
  cases w with
  | func g a' b' =>
   obtain⟨a'⟩:=a';obtain⟨b'⟩:=b';simp only[veq,Bool.and_eq_true,decide_eq_true_eq] at h;rw[h.1.1,ZHe h.1.2,ZHe h.2]
  | _=>simp[veq] at h
 | .nilFunc,w,h=>by cases w <;> simp[veq] at h;rfl
 | .iface t v,w,h=>by
  cases w with
  | iface u x =>
   simp only[veq,Bool.and_eq_true] at h;rw[Nat.eq_of_beq_eq_true h.1,ZTO h.2]
  | _=>simp[veq] at h
 | .nilIface,w,h=>by cases w <;> simp[veq] at h;rfl
 | .agg ⟨a⟩,w,h=>by
  cases w with
  | agg b =>
   obtain⟨b⟩:=b;simp only[veq] at h;rw[ZHe h]
  | _=>simp[veq] at h
 | .tuple ⟨a⟩,w,h=>by
  cases w with
  | tuple b =>
   obtain⟨b⟩:=b;simp only[veq] at h;rw[ZHe h]
  | _=>simp[veq] at h
 | .float ..,w,h=>by simp[veq] at h
 | .complex ..,w,h=>by simp[veq] at h
 | .chan ..,w,h=>by simp[veq] at h
theorem ZHe:∀{l m:List Value},veqL l m=true->l=m
 | [],m,h=>by cases m <;> simp[veqL] at h;rfl
 | v::l,m,h=>by
  cases m with
  | nil=>simp[veqL] at h
  | cons w m =>
   simp only[veqL,Bool.and_eq_true] at h;rw[ZTO h.1,ZHe h.2]
end
variable {P:Program}{V:Nat->Nat->Bool} {ι:Iota}
theorem ZFM (fn:FuncId)(e:Env)(t:Tmp)(l:List Tmp):view V fn e (t::l)=match lk t e with|some v=>putE V fn t v (view V fn e l)|none=>view V fn e l:=rfl
theorem ZEX {fn:FuncId}{e:Env}:∀(l:List Tmp),EI V fn (view V fn e l)/\∀t v,lk t (view V fn e l)=some v->t∈l/\lk t e=some v:=by
 intro l
 induction l with
 | nil=>exact⟨⟨(fun p hp=>nomatch hp),(fun p hp=>nomatch hp)⟩,fun t v h=>by simp[view,ZF6,ZCW] at h⟩
 | cons s l ih =>
  rw[ZFM]
  split
  ·rename_i x hx
   refine⟨ih.1.putE s x,fun t v h=>?_⟩;rw[ZBy ih.1] at h
   by_cases e1:s=t
   ·subst e1
    simp at h;subst h;exact⟨List.mem_cons_self,hx⟩
   ·simp[e1] at h
    exact⟨List.mem_cons_of_mem _ (ih.2 t v h).1,(ih.2 t v h).2⟩
  ·exact⟨ih.1,fun t v h=>⟨List.mem_cons_of_mem _ (ih.2 t v h).1,(ih.2 t v h).2⟩⟩
theorem viewL_cons (e:Env)(t:Tmp)(l:List Tmp):ZD8 e (t::l)=match lk t e with|some v=>(t,v)::ZD8 e l|none=>ZD8 e l:=by
 show @Option.rec Value (fun _=>List (Nat×Value)) (ZD8 e l) (fun v=>(t,v)::ZD8 e l) (lk t e)=_
 cases lk t e <;> rfl
theorem ZFK {e:Env}(l:List Tmp):∀t v,lk t (ZFL e l)=some v->t∈l/\lk t e=some v:=by
 intro t v h;rw[ZF6] at h;have h':lkL t (ZD8 e l)=some v:=by
  simp only[ZFL,ZCW] at h
  cases hq:lkL t (ZD8 e l) with
  | none=>rw[hq] at h;cases h
  | some x=>rw[hq] at h;exact h
 clear h
 induction l with
 | nil=>exact absurd h' (by show lkL t []≠_;rw[ZCW];simp)
 | cons s l ih =>
  rw[viewL_cons] at h'
  cases hq:lk s e with
  | none=>rw[hq] at h';exact⟨List.mem_cons_of_mem _ (ih h').1,(ih h').2⟩
  | some x =>
   rw[hq] at h';simp only[ZBE] at h'
   by_cases e1:s=t
   ·subst e1
    simp at h';subst h';exact⟨List.mem_cons_self,hq⟩
   ·simp[e1] at h'
    exact⟨List.mem_cons_of_mem _ (ih h').1,(ih h').2⟩
theorem ZM5 {e e':Env}:∀{l:List Tmp},(∀t∈l,lk t e=lk t e')->ZD8 e l=ZD8 e' l:=by
 intro l
 induction l with
 | nil=>intro _;rfl
 | cons s l ih =>
  intro h;rw[viewL_cons,viewL_cons,h s List.mem_cons_self,ih fun t ht=>h t (List.mem_cons_of_mem _ ht)]
theorem ZMY {e e':Env}{l:List Tmp}(h:∀t∈l,lk t e=lk t e'):ZFL e l=ZFL e' l:=by
 unfold ZFL;rw[ZM5 h]
theorem HR.weaken {h H:Heap}{hp:Array Obj}(hr:HR ι H hp)(hs:∀b o,h.get b=some o->H.get b=some o)(hn:H.nx<=h.nx)(hg:h.gl=H.gl):HR ι h hp where
 obj:=fun b o hb=>hr.obj b o (hs b o hb)
 inj:=fun b b' o o' bi bi' h1 h2=>hr.inj b b' o o' bi bi' (hs _ _ h1) (hs _ _ h2)
 fresh:=fun b bi hb=>Nat.lt_of_lt_of_le (hr.fresh b bi hb) hn
 glo:=fun g bi hgl=>hr.glo g bi (by rw[<-hg];exact hgl)
 gn:=by rw[hg];exact Nat.le_trans hr.gn hn
theorem HR.addAt {h:Heap}{hp:Array Obj}(hr:HR ι h hp){b:Nat}{o:AO}{o':Obj}{bi:BI}(hb:bi.blk=hp.size)(hnone:ι b=none)(hlt:b<h.nx)(_hn:True)(hgl:h.gl<=b)(ho:OR (upd ι b bi) bi o o') :
  HR (upd ι b bi) (h.set b o) (hp.push o')/\Sub ι (upd ι b bi)/\(∀c,c<hp.size->(hp.push o')[c]?=hp[c]?)/\(∀c,Rg (upd ι b bi) (h.set b o) c->c<hp.size->Rg ι h c):=by
 have hsub:Sub ι (upd ι b bi):=fun c x hc=>by
  have:c≠b:=fun e=>by rw[e,hnone] at hc;cases hc
  rw[upd_other _ _ this];exact hc
 have hsame:(h.set b o).get b=some o:=by unfold Heap.get Heap.set;exact ZAm h.t b (some o)
 have hdom:∀c x,(h.set b o).get c=some x->(c=b/\x=o)\/(c≠b/\h.get c=some x):=by
  intro c x hx
  by_cases e:c=b
  ·subst e;rw[hsame] at hx;cases hx;exact .inl ⟨rfl,rfl⟩
  ·rw[Heap.get_set_other _ e] at hx;exact .inr ⟨e,hx⟩
 have hpush:∀c,c<hp.size->(hp.push o')[c]?=hp[c]?:=fun c hc=>by rw[Array.getElem?_push,if_neg (by omega)]
 refine⟨⟨?_,?_,?_,?_,hr.gn⟩,hsub,hpush,?_⟩
 ·intro c x hx
  rcases hdom c x hx with ⟨rfl,rfl⟩|⟨h1,h2⟩
  ·exact⟨bi,o',upd_same _ _ _,by rw[hb];simp,ho⟩
  ·obtain⟨bi',x',e1,e2,e3⟩:=hr.obj c x h2
   refine⟨bi',x',hsub _ _ e1,?_,e3.mono hsub⟩;rw[hpush _ (Array.getElem?_eq_some_iff.1 e2).1];exact e2
 ·intro c c' x x' bi1 bi2 g1 g2 i1 i2 heq
  rcases hdom c x g1 with ⟨rfl,rfl⟩|⟨h1,h2⟩ <;> rcases hdom c' x' g2 with ⟨rfl,rfl⟩|⟨h1',h2'⟩
  ·rfl
  ·exfalso
   rw[upd_same] at i1;cases i1;rw[upd_other _ _ h1'] at i2;have:=hr.blk_lt ⟨c',x',bi2,h2',i2,rfl⟩;omega
  ·exfalso
   rw[upd_same] at i2;cases i2;rw[upd_other _ _ h1] at i1;have:=hr.blk_lt ⟨c,x,bi1,h2,i1,rfl⟩;omega
  ·rw[upd_other _ _ h1] at i1;rw[upd_other _ _ h1'] at i2
   exact hr.inj c c' x x' bi1 bi2 h2 h2' i1 i2 heq
 ·intro c x hx
  by_cases e:c=b
  ·subst e;exact hlt
  ·rw[upd_other _ _ e] at hx;exact hr.fresh c x hx
 ·intro g x hg hx
  have:g<h.gl:=hg;have e:g≠b:=by omega
  rw[upd_other _ _ e] at hx;exact hr.glo g x hg hx
 ·rintro c ⟨d,x,bi1,g1,i1,rfl⟩ hc
  rcases hdom d x g1 with ⟨rfl,rfl⟩|⟨h1,h2⟩
  ·rw[upd_same] at i1;cases i1;omega
  ·rw[upd_other _ _ h1] at i1;exact⟨d,x,bi1,h2,i1,rfl⟩
theorem HR.loose {h H h':Heap}{w w':World} {ι':Iota}(hr:HR ι H w.heap)(hs:∀b o,h.get b=some o->H.get b=some o)(hr':HR ι' h' w'.heap)(ha:Adv ι h w ι' h' w'){b:Nat}{o:AO}(hb:H.get b=some o)(hno:h.get b=none) :
  ∃bi o',ι b=some bi/\ι' b=some bi/\bi.blk<w.heap.size/\w'.heap[bi.blk]?=some o'/\OR ι' bi o o'/\h'.get b=none/\¬Rg ι' h' bi.blk:=by
 obtain⟨bi,o',e1,e2,e3⟩:=hr.obj b o hb;have hlt:=(Array.getElem?_eq_some_iff.1 e2).1;have hnr:¬Rg ι h bi.blk:=by
  rintro⟨b2,o2,bi2,g1,g2,g3⟩;have:=hr.inj b2 b o2 o bi2 bi (hs _ _ g1) hb g2 e1 g3;subst this;rw[hno] at g1;cases g1
 have hnr':¬Rg ι' h' bi.blk:=fun hq=>hnr (ha.dm _ hq hlt);refine⟨bi,o',e1,ha.sub _ _ e1,hlt,by rw[ha.fr _ hlt hnr];exact e2,e3.mono ha.sub,?_,hnr'⟩
 cases hq:h'.get b with
 | none=>rfl
 | some x=>exact absurd ⟨b,x,bi,hq,ha.sub _ _ e1,rfl⟩ hnr'
theorem HR.join {h H h' H':Heap}{w w':World} {ι':Iota}(hr:HR ι H w.heap)(hs:∀b o,h.get b=some o->H.get b=some o)(hr':HR ι' h' w'.heap)(ha:Adv ι h w ι' h' w')(hn:h.nx=H.nx)(hg:h.gl=H.gl)
  (hd:∀b o,H'.get b=some o->h'.get b=some o\/(H.get b=some o/\h.get b=none)) (hn':H'.nx=h'.nx) (hg':H'.gl=h'.gl):HR ι' H' w'.heap/\Adv ι H w ι' H' w':=by
 refine⟨⟨?_,?_,?_,?_,?_⟩,⟨ha.sub,ha.sz,?_,?_,?_,?_,?_,ha.os,ha.out,fun e=>ha.dr (hg.trans e)⟩⟩
 ·intro b o hb
  rcases hd b o hb with h1|⟨h1,h2⟩
  ·exact hr'.obj b o h1
  ·obtain⟨bi,o',e1,e2,e3,e4,e5,_⟩:=hr.loose hs hr' ha h1 h2
   exact⟨bi,o',e2,e4,e5⟩
 ·intro b b' o o' bi bi' g1 g2 i1 i2 heq
  rcases hd b o g1 with h1|⟨h1,h2⟩ <;> rcases hd b' o' g2 with h1'|⟨h1',h2'⟩
  ·exact hr'.inj b b' o o' bi bi' h1 h1' i1 i2 heq
  ·obtain⟨bj,_,e1,e2,e3,e4,e5,e6,e7⟩:=hr.loose hs hr' ha h1' h2'
   rw[i2] at e2;cases e2;exact absurd ⟨b,o,bi,h1,i1,heq⟩ e7
  ·obtain⟨bj,_,e1,e2,e3,e4,e5,e6,e7⟩:=hr.loose hs hr' ha h1 h2
   rw[i1] at e2;cases e2;exact absurd ⟨b',o',bi',h1',i2,heq.symm⟩ e7
  ·obtain⟨bj,_,e1,e2,_⟩:=hr.loose hs hr' ha h1 h2
   obtain⟨bj',_,e1',e2',_⟩:=hr.loose hs hr' ha h1' h2';rw[i1] at e2;cases e2;rw[i2] at e2';cases e2';exact hr.inj b b' o o' bi bi' h1 h1' e1 e1' heq
 ·intro b bi hb;rw[hn'];exact hr'.fresh b bi hb
 ·intro g bi hgl hb;exact hr'.glo g bi (by rw[<-hg'];exact hgl) hb
 ·rw[hn',hg'];exact hr'.gn
 ·intro c hc hno
  refine ha.fr c hc ?_;rintro⟨b,o,bi,g1,g2,g3⟩;exact hno ⟨b,o,bi,hs _ _ g1,g2,g3⟩
 ·rintro c ⟨b,o,bi,g1,g2,rfl⟩ hc
  rcases hd b o g1 with h1|⟨h1,h2⟩
  ·obtain⟨b2,o2,bi2,q1,q2,q3⟩:=ha.dm _ ⟨b,o,bi,h1,g2,rfl⟩ hc
   exact⟨b2,o2,bi2,hs _ _ q1,q2,q3⟩
  ·obtain⟨bj,_,e1,e2,_⟩:=hr.loose hs hr' ha h1 h2
   rw[g2] at e2;cases e2;exact⟨b,o,bi,h1,e1,rfl⟩
 ·rw[hn',<-hn];exact ha.nx
 ·intro b hb;exact ha.old b (by rw[hn];exact hb)
 ·rw[hg',<-hg];exact ha.gl
theorem OR.cells {vs vs':List Value}(hv:VRL ι vs vs')(elem:TypeId)(n:Nat):OR ι ⟨n,vs'.length,1⟩ (.cells vs elem false) (.cells vs'.toArray elem):=by
 simp only[OR];have hl:=hv.length;refine⟨trivial,trivial,by simp,by simp;omega,fun _=>by simpa using hl,?_⟩;rw[List.take_of_length_le (by omega)];exact hv
theorem NK.rel {nk:NK}{b:Nat}{bi:BI}(h:ι b=some bi):VR ι (nk.mk b) (nk.mk bi.blk):=by
 cases nk with
 | ptr=>exact .ptr h
 | sl l c=>exact .sl h
 | mp=>exact .map h
theorem ZRg {h:Heap}{e:Env}{o:Oper}{nk:NK}{ao:AO}(hs:ZEq P o h e=some (nk,ao)):roA ao=false:=by
 unfold ZEq at hs
 split at hs
 all_goals (repeat' split at hs)
 all_goals first|(cases hs;rfl)|cases hs
theorem ZE1 {h:Heap}{w:World}{e:Env}{a:Act}(hr:HR ι h w.heap)(he:EnvR ι e a.tmps){o:Oper}{nk:NK}{ao:AO}(hs:ZEq P o h e=some (nk,ao)) :
  ∃(o':Obj) (bi:BI),(execOp a.eval o).run P w=.ok (.value (nk.mk w.heap.size)) { w with heap:=w.heap.push o' }/\bi.blk=w.heap.size/\OR ι bi ao o':=by
 obtain⟨dst,op,ty,pos,after,guard⟩:=o;unfold ZEq at hs
 cases op with
 | alloc t =>
  simp only at hs
  split at hs
  ·rename_i z hz
   cases hs;obtain⟨hf,hrun⟩:=ZBV hz;refine⟨_,⟨w.heap.size,z.cells.toList.length,1⟩,?_,rfl,OR.cells (VR.cells (VR.of_flat ι hf)) t _⟩;simp only[execOp,Instr.alloc,Sem.run_bind,hrun,Result.andThen_ok];simp[Instr.box,newVar,newRow,NK.mk]
  ·cases hs
 | box t x =>
  simp only at hs
  split at hs
  ·rename_i v hv
   cases hs;refine⟨_,⟨w.heap.size,(a.eval x).cells.toList.length,1⟩,?_,rfl,OR.cells (VR.cells (ZAH hr he hv)) t _⟩;simp[execOp,Instr.box,newVar,newRow,NK.mk]
  ·cases hs
 | buildSlice t n ps =>
  simp only at hs
  split at hs
  ·rename_i l hl
   split at hs
   ·rename_i cs el hb
    cases hs;obtain⟨l',e1,e2⟩:=ZFp (P:=P) (ps':=ps.map fun p=>(p.1,a.eval p.2)) (by simpa using ZF1 hr he hl) hb;refine⟨_,⟨w.heap.size,l'.length,1⟩,?_,rfl,OR.cells e1 el _⟩;simp only[execOp,Sem.run_bind,e2 w,Result.andThen_ok,Sem.run_pure]
    rfl
   ·cases hs
  ·cases hs
 | makeSlice t l c =>
  simp only at hs
  split at hs
  ·rename_i l1 c1 hl hc
   split at hs
   ·rename_i vs el n m hb
    cases hs;obtain⟨e1,e2⟩:=ZFZ (P:=P) (ZAH (a:=a) hr he hl) (ZAH (a:=a) hr he hc) hb;refine⟨_,⟨w.heap.size,vs.length,1⟩,?_,rfl,OR.cells (VRL.of_flat ι e1) el _⟩;simp only[execOp,Sem.run_bind,e2 w,Result.andThen_ok,Sem.run_pure]
    rfl
   ·cases hs
  ·cases hs
 | makeMap t r =>
  cases r with
  | none =>
   cases hs;refine⟨.map #[] 0,⟨w.heap.size,0,0⟩,?_,rfl,?_⟩
   ·simp[execOp,Instr.makeMap,NK.mk]
   ·simp only[OR];exact⟨trivial,.nil⟩
  | some x=>simp only at hs;cases hs
 | _=>simp only at hs;cases hs
variable {P:Program}{V:Nat->Nat->Bool} {ι:Iota}{bg:Nat}
theorem testBit_set (T i j:Nat):Nat.testBit (Nat.lor T (Nat.shiftLeft 1 i)) j=(Nat.testBit T j || decide (i=j)):=by
 show Nat.testBit (T ||| (1 <<< i)) j=_
 rw[Nat.testBit_or]
 congr 1
 rw[Nat.testBit_shiftLeft]
 by_cases h:i=j
 ·subst h;simp
 ·rcases Nat.lt_or_ge j i with h1|h1
  ·have:¬j ≥ i:=by omega
   simp[this,h]
  ·have hne:j-i≠0:=by omega
   have:Nat.testBit 1 (j-i)=false:=by
    cases hq:Nat.testBit 1 (j-i) with
    | false=>rfl
    | true=>exact absurd (Nat.testBit_one_eq_true_iff_self_eq_zero.1 hq) hne
   simp[h1,h,this]
theorem ZO0 {acc:List Nat}{o:Oper}{j:Nat}(h:Nat.testBit (ZRQ acc o) j=true) :
  ∃e∈o.after,Region.binds .any e=true/\(e.on=j\/∃m,acc[e.on]?=some m/\Nat.testBit m j=true):=by
 have key:∀(l:List Edge) (s:Nat),Nat.testBit (l.foldl (fun s e=>if Region.binds .any e then Nat.lor (Nat.lor s (Nat.shiftLeft 1 e.on)) ((nth acc e.on).getD 0) else s) s) j=true →
   Nat.testBit s j=true\/∃e∈l,Region.binds .any e=true/\(e.on=j\/∃m,acc[e.on]?=some m/\Nat.testBit m j=true):=by
  intro l
  induction l with
  | nil=>intro s h;exact .inl h
  | cons e l ih =>
   intro s h;rw[List.foldl_cons] at h
   rcases ih _ h with h1|⟨e',h1,h2⟩
   ·by_cases hb:Region.binds .any e=true
    ·rw[if_pos hb] at h1
     have h2:Nat.testBit (Nat.lor s (Nat.shiftLeft 1 e.on) ||| (nth acc e.on).getD 0) j=true:=h1;rw[Nat.testBit_or,testBit_set,ZAv] at h2;simp only[Bool.or_eq_true,decide_eq_true_eq] at h2
     rcases h2 with (h2|h2)|h2
     ·exact .inl h2
     ·exact .inr ⟨e,List.mem_cons_self,hb,.inl h2⟩
     ·refine .inr ⟨e,List.mem_cons_self,hb,.inr ?_⟩
      cases hq:acc[e.on]? with
      | none=>rw[hq] at h2;simp at h2
      | some m=>rw[hq] at h2;exact⟨m,rfl,h2⟩
    ·rw[if_neg hb] at h1;exact .inl h1
   ·exact .inr ⟨e',List.mem_cons_of_mem _ h1,h2⟩
 rcases key o.after.toList 0 h with h1|⟨e,h1,h2⟩
 ·simp at h1
 ·exact⟨e,by simpa using h1,h2⟩
def ZTq (ops:List Oper)(acc:List Nat):Prop:=∀(k m:Nat),acc[k]?=some m->∃o,ops[k]?=some o/\∀j,Nat.testBit m j=true->∃e∈o.after,Region.binds .any e=true/\(e.on=j\/∃m',acc[e.on]?=some m'/\Nat.testBit m' j=true)
theorem ZLu (o:Oper)(l:List Oper)(acc:List Nat):ZID (o::l) acc=ZID l (acc++[ZRQ acc o]):=rfl
theorem ZLA {ops:List Oper}:∀(l:List Oper)(acc:List Nat),ops.drop acc.length=l->acc.length<=ops.length->ZTq ops acc->ZTq ops (ZID l acc)/\(ZID l acc).length=ops.length:=by
 intro l
 induction l with
 | nil =>
  intro acc hd hl hg;refine⟨hg,?_⟩;have:=congrArg List.length hd;simp at this
  show acc.length=_
  omega
 | cons o l ih =>
  intro acc hd hl hg;rw[ZLu];have ho:ops[acc.length]?=some o:=by
   have h1:(ops.drop acc.length)[0]?=some o:=by rw[hd];rfl
   rw[List.getElem?_drop] at h1;simpa using h1
  have hlt:acc.length<ops.length:=(List.getElem?_eq_some_iff.1 ho).1;refine ih _ ?_ (by simp;omega) ?_
  ·have:(ops.drop acc.length).drop 1=l:=by rw[hd];rfl
   rw[List.drop_drop] at this;simpa using this
  ·intro k m hk
   rcases Nat.lt_or_ge k acc.length with h1|h1
   ·rw[List.getElem?_append_left h1] at hk
    obtain⟨o',g1,g2⟩:=hg k m hk;refine⟨o',g1,fun j hj=>?_⟩;obtain⟨e,q1,q2,q3⟩:=g2 j hj;refine⟨e,q1,q2,q3.imp id ?_⟩;rintro⟨m',r1,r2⟩;exact⟨m',by rw[List.getElem?_append_left (List.getElem?_eq_some_iff.1 r1).1];exact r1,r2⟩
   ·rw[List.getElem?_append_right h1] at hk
    have hk0:k=acc.length:=by
     have:=(List.getElem?_eq_some_iff.1 hk).1;simp at this;omega
    subst hk0;simp at hk;subst hk;refine⟨o,ho,fun j hj=>?_⟩;obtain⟨e,q1,q2,q3⟩:=ZO0 hj;refine⟨e,q1,q2,q3.imp id ?_⟩;rintro⟨m',r1,r2⟩;exact⟨m',by rw[List.getElem?_append_left (List.getElem?_eq_some_iff.1 r1).1];exact r1,r2⟩
theorem ZGN (ops:List Oper):ZTq ops (ZKW ops)/\(ZKW ops).length=ops.length :=
 ZLA ops [] rfl (Nat.zero_le _) (fun k m h=>by simp at h)
theorem ZRw:∀(os:List Oper)(ms:List Nat)(n:Nat)(x:Ix),x∈zip3 n os ms->∃k,x.i=n+k/\os[k]?=some x.o/\ms[k]?=some x.m:=by
 intro os
 induction os with
 | nil=>intro ms n x h;simp[zip3] at h
 | cons o os ih =>
  intro ms n x h
  cases ms with
  | nil=>simp[zip3] at h
  | cons m ms =>
   simp only[zip3] at h
   rcases List.mem_cons.1 h with h|h
   ·subst h;exact⟨0,rfl,rfl,rfl⟩
   ·obtain⟨k,h1,h2,h3⟩:=ih ms (n+1) x h
    exact⟨k+1,by omega,by simpa using h2,by simpa using h3⟩
theorem ZNv:∀(os:List Oper)(ms:List Nat)(n k:Nat)(o:Oper)(m:Nat),os[k]?=some o->ms[k]?=some m->⟨n+k,o,m⟩∈zip3 n os ms:=by
 intro os
 induction os with
 | nil=>intro ms n k o m h;simp at h
 | cons o1 os ih =>
  intro ms n k o m h hm
  cases ms with
  | nil=>simp at hm
  | cons m1 ms =>
   simp only[zip3]
   cases k with
   | zero=>simp at h hm;subst h;subst hm;exact List.mem_cons_self
   | succ k =>
    have:=ih ms (n+1) k o m (by simpa using h) (by simpa using hm);rw[show n+1+k=n+(k+1) by omega] at this;exact List.mem_cons_of_mem _ this
theorem ZDH {ops:Array Oper}{x:Ix}(h:x∈ixs ops.toList):ops[x.i]?=some x.o/\(ZKW ops.toList)[x.i]?=some x.m:=by
 obtain⟨k,h1,h2,h3⟩:=ZRw _ _ 0 x h;have:x.i=k:=by omega
 subst this;exact⟨by simpa using h2,h3⟩
theorem ZM7 {ops:Array Oper}{k:Nat}{o:Oper}(h:ops[k]?=some o):∃x∈ixs ops.toList,x.i=k/\x.o=o:=by
 have hlt:k<(ZKW ops.toList).length:=by
  rw[(ZGN ops.toList).2];have:=(Array.getElem?_eq_some_iff.1 h).1
  simpa using this
 have:=ZNv ops.toList (ZKW ops.toList) 0 k o _ (by simpa using h) (List.getElem?_eq_getElem hlt);exact⟨_,this,by simp,rfl⟩
theorem ZDp {ops:Array Oper}{x y:Ix}(hx:x∈ixs ops.toList)(hy:y∈ixs ops.toList)(h:x.i=y.i):x=y:=by
 obtain⟨a1,a2⟩:=ZDH hx;obtain⟨b1,b2⟩:=ZDH hy;rw[h,b1] at a1;rw[h,b2] at a2;obtain⟨i,o,m⟩:=x;obtain⟨i',o',m'⟩:=y;simp only[Option.some.injEq] at a1 a2 h;rw[h,a1,a2]
theorem ZIN {ops:Array Oper}(he:ZB7 (ixs ops.toList)=true){L:Nat->Prop}(hc:∀k,L k->∀o,ops[k]?=some o->∀e∈o.after,Region.binds .any e=true->L e.on) :
  ∀(n:Nat) (x:Ix),x.i<n->x∈ixs ops.toList->(∀e∈x.o.after,Region.binds .any e=true->L e.on)->∀j,Nat.testBit x.m j=true->L j:=by
 intro n
 induction n with
 | zero=>intro x h;omega
 | succ n ih =>
  intro x hn hx hr j hj;obtain⟨h1,h2⟩:=ZDH hx;obtain⟨o,g1,g2⟩:=(ZGN ops.toList).1 _ _ h2;have:o=x.o:=by
   have:ops.toList[x.i]?=some x.o:=by simpa using h1
   rw[g1] at this;cases this;rfl
  subst this;obtain⟨e,q1,q2,q3⟩:=g2 j hj
  rcases q3 with rfl|⟨m',r1,r2⟩
  ·exact hr e q1 q2
  ·have hlt:e.on<x.i:=by
    unfold ZB7 at he;have h3:=List.all_eq_true.1 he x hx;have h4:=List.all_eq_true.1 h3 e (by simpa using q1);simp only[q2,Bool.not_true,Bool.false_or] at h4;exact Nat.le_of_ble_eq_true h4
   have hlt2:e.on<ops.size:=by
    have:=(List.getElem?_eq_some_iff.1 r1).1;rw[(ZGN ops.toList).2] at this
    simpa using this
   have hy:(⟨e.on,ops[e.on],m'⟩:Ix)∈ixs ops.toList:=by
    have:=ZNv ops.toList (ZKW ops.toList) 0 e.on ops[e.on] m' (by simp[hlt2]) r1
    simpa [ixs] using this
   exact ih _ (by show e.on<n;omega) hy (fun e' he' hb'=>hc e.on (hr e q1 q2) _ (by simp[hlt2]) e' he' hb') j r2
theorem ZJH {l:List Ix}:∀(es:List Ix)(done:Nat),(∀x∈es,x∈l)->∀ph∈ZEZ l es done,(∀x∈ph.qs,x∈l)/\∀x,ph.ef=some x->x∈l:=by
 intro es
 induction es with
 | nil =>
  intro done _ ph hp;simp only[ZEZ,List.mem_singleton] at hp;subst hp;exact⟨fun x hx=>(List.mem_filter.1 hx).1,fun x hx=>by cases hx⟩
 | cons y es ih =>
  intro done hs ph hp;simp only[ZEZ] at hp
  rcases List.mem_cons.1 hp with h|h
  ·subst h
   exact⟨fun x hx=>(List.mem_filter.1 hx).1,fun x hx=>by cases hx;exact hs _ List.mem_cons_self⟩
  ·exact ih _ (fun x hx=>hs x (List.mem_cons_of_mem _ hx)) ph h
def ZRN (P:Program)(ops:List Oper)(h:Heap)(d:Done)(e:Env):Prop :=
 (gd ops d.x.o e=some false/\d.b=none/\d.v=.tuple ⟨[]⟩) ∨
 (gd ops d.x.o e=some true/\ZD0 d.x.o.op=.pure/\d.b=none/\∃h1,aop P d.x.o h e=.ok d.v h1) ∨
 (gd ops d.x.o e=some true/\ZD0 d.x.o.op=.alloc/\∃b nk ao,d.b=some (b,nk,ao)/\ZEq P d.x.o h e=some (nk,ao)/\d.v=nk.mk b)
structure ZSC (P:Program)(bg:Nat)(ops:Array Oper)(h:Heap)(e:Env)(d:Done):Prop where
 slot:∀t,d.x.o.dst=some t->lk t e=some d.v
 at':ZRN P ops.toList (hz bg h) d (ZFL e (d.x.o.looksAt ops))
theorem ZSC.keep {ops:Array Oper}{h h':Heap}{e e':Env}{d:Done}(hs:ZSC P bg ops h e d)(ht:h'.t=h.t)(hg:h'.gl=h.gl)(hl:∀t∈ZOI ops d.x.o,lk t e'=lk t e):ZSC P bg ops h' e' d:=by
 refine⟨fun t hd=>?_,?_⟩
 ·rw[hl t (List.mem_append_right _ (by rw[hd];exact List.mem_singleton.2 rfl))];exact hs.slot t hd
 ·have h1:hz bg h'=hz bg h:=by unfold hz;rw[ht,hg]
  have h2:ZFL e' (d.x.o.looksAt ops)=ZFL e (d.x.o.looksAt ops):=ZMY fun t ht=>hl t (List.mem_append_left _ ht);rw[h1,h2];exact hs.at'
theorem ZO3 {fr:Fr}{ops:Array Oper}{x:Ix}{e e':Env}{h h':Heap}{d:Done}(hs:ZMU P V bg fr ops x e h=some (d,e',h'))(hi:EI V fr.fn e) :
  d.x=x/\ZRN P ops.toList (hz bg h) d (ZFL e (x.o.looksAt ops))/\(∀t,x.o.dst=some t->lk t e'=some d.v)/\(∀t,x.o.dst≠some t->lk t e'=lk t e)/\EI V fr.fn e'/\(∀t,x.o.dst=some t->t<fr.nt)/\(∀t v,lk t e'=some v->x.o.dst=some t\/lk t e=some v)/\h'.t=h.t/\h'.gl=h.gl/\h.nx<=h'.nx ∧
  ∀b nk ao,d.b=some (b,nk,ao)->b=h.nx/\h'.nx=h.nx+1/\True:=by
 have hput:∀{v:Value} {e1:Env},put V fr x.o v e=some e1->(∀t,x.o.dst=some t->lk t e1=some v)/\(∀t,x.o.dst≠some t->lk t e1=lk t e)/\EI V fr.fn e1/\(∀t,x.o.dst=some t->t<fr.nt)/\(∀t v,lk t e1=some v->x.o.dst=some t\/lk t e=some v):=by
  intro v e1 hp;unfold put at hp
  split at hp
  ·rename_i hd;cases hp;exact⟨(fun t ht=>by rw[hd] at ht;cases ht),fun _ _=>rfl,hi,(fun t ht=>by rw[hd] at ht;cases ht),fun t v hv=>.inr hv⟩
  ·rename_i dd hd
   cases hb:Nat.blt dd fr.nt
   ·rw[hb] at hp;cases hp
   ·rw[hb] at hp;cases hp
    refine⟨fun t ht=>?_,fun t ht=>?_,hi.putE _ _,fun t ht=>?_,fun t v hv=>?_⟩
    ·rw[hd] at ht;cases ht;rw[ZBy hi];simp
    ·rw[ZBy hi]
     have:¬dd=t:=fun e1=>ht (by rw[hd,e1]);simp[this]
    ·rw[hd] at ht;cases ht;exact Nat.le_of_ble_eq_true hb
    ·rw[ZBy hi] at hv
     by_cases e1:dd=t
     ·subst e1;exact .inl hd
     ·simp[e1] at hv;exact .inr hv
 unfold ZMU ZQ7 at hs
 split at hs
 ·rename_i hg
  split at hs
  ·rename_i e1 hp
   cases hs;obtain⟨b1,b2,a1,a2,a3⟩:=hput hp;exact⟨rfl,.inl ⟨hg,rfl,rfl⟩,b1,b2,a1,a2,a3,rfl,rfl,Nat.le_refl _,fun b nk ao hb=>by cases hb⟩
  ·cases hs
 ·rename_i hg
  split at hs
  ·rename_i hk
   split at hs
   ·rename_i v1 h1 hop
    split at hs
    ·rename_i e1 hp
     cases hs;obtain⟨b1,b2,a1,a2,a3⟩:=hput hp;exact⟨rfl,.inr (.inl ⟨hg,hk,rfl,h1,hop⟩),b1,b2,a1,a2,a3,rfl,rfl,Nat.le_refl _,fun b nk ao hb=>by cases hb⟩
    ·cases hs
   ·cases hs
  ·rename_i hk
   split at hs
   ·rename_i nk1 ao1 hnew
    split at hs
    ·rename_i e1 hp
     ·cases hs
      obtain⟨b1,b2,a1,a2,a3⟩:=hput hp;exact⟨rfl,.inr (.inr ⟨hg,hk,h.nx,nk1,ao1,rfl,hnew,rfl⟩),b1,b2,a1,a2,a3,rfl,rfl,Nat.le_succ _,fun b nk ao hbb=>by cases hbb;exact⟨rfl,rfl,trivial⟩⟩
    ·cases hs
   ·cases hs
  ·cases hs
 ·cases hs
theorem ZNE (fr:Fr)(ops:Array Oper)(x:Ix)(l:List Ix)(ds:List Done)(e:Env)(h:Heap):quiets P V bg fr ops (x::l) ds e h=match ZMU P V bg fr ops x e h with
   | some (d,e',h')=>quiets P V bg fr ops l (d::ds) e' h'
   | none=>none:=rfl
theorem ZMS {fr:Fr}{ops:Array Oper}{dn':List Done}{e':Env}{h':Heap}{T':Nat}:∀(l:List Ix)(dn:List Done)(e:Env)(h:Heap)(T:Nat),quiets P V bg fr ops l dn e h=some (dn',e',h')->ZKh l T=some T'->EI V fr.fn e →
  ∃new,dn'=new++dn/\(∀d∈new,d.x∈l)/\(∀x∈l,∃d∈new,d.x=x)/\(∀d∈new,∀d'∈new,d.x.i=d'.x.i->d=d')/\EI V fr.fn e'/\(∀x∈l,∀t,x.o.dst=some t->t<fr.nt) ∧
   (∀t v,lk t e'=some v->(∃x∈l,x.o.dst=some t)\/lk t e=some v)/\h'.t=h.t/\h'.gl=h.gl/\h.nx<=h'.nx ∧
   (∀d∈new,∀b nk ao,d.b=some (b,nk,ao)->h.nx<=b/\b<h'.nx/\True)/\(∀d∈new,∀d'∈new,∀b nk ao nk' ao',d.b=some (b,nk,ao)->d'.b=some (b,nk',ao')->d=d') ∧
   (∀x∈l,Nat.testBit T x.i=false/\ZDV x=false)/\(∀j,Nat.testBit T' j=true ↔ (Nat.testBit T j=true\/∃x∈l,x.i=j)):=by
 intro l
 induction l with
 | nil =>
  intro dn e h T hs ht hi;cases hs;cases ht;refine⟨[],rfl,(fun d hd=>nomatch hd),(fun d hd=>nomatch hd),(fun d hd=>nomatch hd),hi,(fun d hd=>nomatch hd),fun t v hv=>.inr hv,rfl,rfl,Nat.le_refl _,(fun d hd=>nomatch hd),(fun d hd=>nomatch hd),(fun d hd=>nomatch hd),fun j=>?_⟩;simp
 | cons x l ih =>
  intro dn e h T hs ht hi;rw[ZNE] at hs;simp only[ZKh] at ht
  split at ht
  ·cases ht
  rename_i hT;simp only[Bool.or_eq_true,not_or,Bool.not_eq_true] at hT
  split at hs
  case h_2=>cases hs
  rename_i d e1 h1 hq;obtain⟨q1,_,_,_,q2,q3,q4,q5,q6,q7,q8⟩:=ZO3 hq hi;obtain⟨new,n1,n2,n3,n4,n5,n6,n7,n8,n9,n10,n11,n12,n13,n14⟩:=ih (d::dn) e1 h1 _ hs ht q2;have hne:∀d'∈new,d'.x.i≠x.i:=by
   intro d' hd' he;have:=(n13 d'.x (n2 d' hd')).1;rw[testBit_set,he] at this;simp at this
  have hb1:∀d'∈new,∀b nk ao nk' ao',d'.b=some (b,nk,ao)->d.b=some (b,nk',ao')->False:=by
   intro d' hd' b nk ao nk' ao' g1 g2;have:=(n11 d' hd' b nk ao g1).1;have:=q8 b nk' ao' g2;omega
  refine⟨new++[d],by simp[n1],?_,?_,?_,n5,?_,?_,n8.trans q5,n9.trans q6,Nat.le_trans q7 n10,?_,?_,?_,?_⟩
  ·intro d' hd'
   rcases List.mem_append.1 hd' with g|g
   ·exact List.mem_cons_of_mem _ (n2 d' g)
   ·simp at g;subst g;rw[q1];exact List.mem_cons_self
  ·intro y hy
   rcases List.mem_cons.1 hy with g|g
   ·subst g;exact⟨d,by simp,q1⟩
   ·obtain⟨d',g1,g2⟩:=n3 y g
    exact⟨d',List.mem_append_left _ g1,g2⟩
  ·intro d1 hd1 d2 hd2 heq
   rcases List.mem_append.1 hd1 with g|g <;> rcases List.mem_append.1 hd2 with g'|g'
   ·exact n4 d1 g d2 g' heq
   ·simp at g';subst g';rw[q1] at heq;exact absurd heq (hne d1 g)
   ·simp at g;subst g;rw[q1] at heq;exact absurd heq.symm (hne d2 g')
   ·simp at g g';rw[g,g']
  ·intro y hy
   rcases List.mem_cons.1 hy with g|g
   ·subst g;exact q3
   ·exact n6 y g
  ·intro t v hv
   rcases n7 t v hv with ⟨y,g1,g2⟩|g
   ·exact .inl ⟨y,List.mem_cons_of_mem _ g1,g2⟩
   ·rcases q4 t v g with g|g
    ·exact .inl ⟨x,List.mem_cons_self,g⟩
    ·exact .inr g
  ·intro d1 hd1 b nk ao hb
   rcases List.mem_append.1 hd1 with g|g
   ·have:=n11 d1 g b nk ao hb
    exact⟨by omega,this.2.1,this.2.2⟩
   ·simp at g;subst g
    have:=q8 b nk ao hb;exact⟨by omega,by omega,this.2.2⟩
  ·intro d1 hd1 d2 hd2 b nk ao nk' ao' hb hb'
   rcases List.mem_append.1 hd1 with g|g <;> rcases List.mem_append.1 hd2 with g'|g'
   ·exact n12 d1 g d2 g' b nk ao nk' ao' hb hb'
   ·simp at g';subst g';exact (hb1 d1 g b nk ao nk' ao' hb hb').elim
   ·simp at g;subst g;exact (hb1 d2 g' b nk' ao' nk ao hb' hb).elim
   ·simp at g g';rw[g,g']
  ·intro y hy
   rcases List.mem_cons.1 hy with g|g
   ·subst g;exact hT
   ·have:=n13 y g
    rw[testBit_set] at this;simp only[Bool.or_eq_false_iff] at this;exact⟨this.1.1,this.2⟩
  ·intro j
   rw[n14 j,testBit_set];simp only[Bool.or_eq_true,decide_eq_true_eq,List.mem_cons,exists_eq_or_imp]
   constructor
   ·rintro ((g|g)|g)
    ·exact .inl g
    ·exact .inr (.inl g)
    ·exact .inr (.inr g)
   ·rintro (g|g|g)
    ·exact .inl (.inl g)
    ·exact .inl (.inr g)
    ·exact .inr g
theorem ZCn (d:Done)(l:List Done)(h:Heap):ZA8 (d::l) h=match d.b with|some (b,_,ao)=>(ZA8 l h).set b ao|none=>ZA8 l h:=rfl
theorem ZEU (l:List Done)(h:Heap):(ZA8 l h).nx=h.nx/\(ZA8 l h).gl=h.gl:=by
 induction l with
 | nil=>exact⟨rfl,rfl⟩
 | cons d l ih=>rw[ZCn];split <;> exact ih
theorem ZDN {l:List Done}{h:Heap}{b:Nat}{o:AO}(hg:(ZA8 l h).get b=some o):(∃d∈l,∃nk,d.b=some (b,nk,o))\/(h.get b=some o/\∀d∈l,∀nk ao,d.b≠some (b,nk,ao)):=by
 induction l with
 | nil=>exact .inr ⟨hg,fun d hd=>nomatch hd⟩
 | cons d l ih =>
  rw[ZCn] at hg
  split at hg
  ·rename_i b1 nk1 ao1 hb
   by_cases e:b=b1
   ·subst e
    have:((ZA8 l h).set b ao1).get b=some ao1:=by unfold Heap.get Heap.set;exact ZAm _ b (some ao1)
    rw[this] at hg;cases hg;exact .inl ⟨d,List.mem_cons_self,nk1,hb⟩
   ·rw[Heap.get_set_other _ e] at hg
    rcases ih hg with ⟨d',g1,nk,g2⟩|⟨g1,g2⟩
    ·exact .inl ⟨d',List.mem_cons_of_mem _ g1,nk,g2⟩
    ·refine .inr ⟨g1,fun d' hd' nk ao=>?_⟩
     rcases List.mem_cons.1 hd' with g|g
     ·subst g;rw[hb];intro hq;cases hq;exact e rfl
     ·exact g2 d' g nk ao
  ·rename_i hb
   rcases ih hg with ⟨d',g1,nk,g2⟩|⟨g1,g2⟩
   ·exact .inl ⟨d',List.mem_cons_of_mem _ g1,nk,g2⟩
   ·refine .inr ⟨g1,fun d' hd' nk ao=>?_⟩
    rcases List.mem_cons.1 hd' with g|g
    ·subst g;rw[hb];intro hq;cases hq
    ·exact g2 d' g nk ao
theorem ZGm {l:List Done}{h:Heap}{b:Nat}(hn:∀d∈l,∀nk ao,d.b≠some (b,nk,ao)):(ZA8 l h).get b=h.get b:=by
 induction l with
 | nil=>rfl
 | cons d l ih =>
  rw[ZCn];have:=ih fun d' hd'=>hn d' (List.mem_cons_of_mem _ hd')
  split
  ·rename_i b1 nk1 ao1 hb
   have hne:b≠b1:=fun e=>by subst e;exact hn d List.mem_cons_self nk1 ao1 hb
   rw[Heap.get_set_other _ hne];exact this
  ·exact this
theorem ZMs {l:List Done}{h:Heap}(hu:∀d∈l,∀d'∈l,∀b nk ao nk' ao',d.b=some (b,nk,ao)->d'.b=some (b,nk',ao')->d=d'){d:Done}{b:Nat}{nk:NK}{ao:AO}(hd:d∈l)(hb:d.b=some (b,nk,ao))(_hlt:True):(ZA8 l h).get b=some ao:=by
 induction l with
 | nil=>cases hd
 | cons d1 l ih =>
  rw[ZCn]
  split
  ·rename_i b1 nk1 ao1 hb1
   by_cases e:b=b1
   ·subst e
    have:=hu d hd d1 List.mem_cons_self b nk ao nk1 ao1 hb hb1;subst this;rw[hb] at hb1;cases hb1;unfold Heap.get Heap.set;exact ZAm _ b (some ao)
   ·rw[Heap.get_set_other _ e]
    rcases List.mem_cons.1 hd with g|g
    ·subst g;rw[hb] at hb1;cases hb1;exact absurd rfl e
    ·exact ih (fun x hx y hy=>hu x (List.mem_cons_of_mem _ hx) y (List.mem_cons_of_mem _ hy)) g
  ·rename_i hb1
   rcases List.mem_cons.1 hd with g|g
   ·subst g;rw[hb] at hb1;cases hb1
   ·exact ih (fun x hx y hy=>hu x (List.mem_cons_of_mem _ hx) y (List.mem_cons_of_mem _ hy)) g
variable {P:Program}{V:Nat->Nat->Bool} {ι:Iota}{bg:Nat}
abbrev Ls (listed:Array Bool)(k:Nat):Prop:=listed.getD k false=true
structure DI (V:Nat->Nat->Bool)(fr:Fr)(ops:Array Oper) (ι0:Iota)(h0:Heap)(w0:World)(T:Nat)(dn:List Done)(e:Env)(ds:List ADef)(h H:Heap)(listed:Array Bool) (ι:Iota)(a:Act)(w:World):Prop where
 lsz:listed.size=ops.size
 closed:∀k,Ls listed k->∀o,ops[k]?=some o->∀ed∈o.after,Region.binds .any ed=true->Ls listed ed.on
 sub:∀k,Ls listed k->T.testBit k=true
 eff:∀x∈ixs ops.toList,T.testBit x.i=true->ZDV x=true->Ls listed x.i
 dnin:∀d∈dn,d.x∈ixs ops.toList/\T.testBit d.x.i=true/\∀t,d.x.o.dst=some t->t<fr.nt
 cov:∀x∈ixs ops.toList,T.testBit x.i=true->¬Ls listed x.i->∃d∈dn,d.x=x
 uniq:∀d∈dn,∀d'∈dn,d.x.i=d'.x.i->d=d'
 slots:∀t v,lk t e=some v->(∃x∈ixs ops.toList,T.testBit x.i=true/\¬Ls listed x.i/\x.o.dst=some t)\/∃v',a.tmps[t]?=some v'/\VR ι v v'
 ei:EI V fr.fn e
 sz:a.tmps.size=fr.nt
 df:DR ι ds a.defers
 hr:HR ι H w.heap
 adv:Adv ι0 h0 w0 ι H w
 nx:H.nx=h.nx
 gl:H.gl=h.gl
 hin:∀b o,h.get b=some o->H.get b=some o
 lay:∀d∈dn,Ls listed d.x.i->∀b nk ao,d.b=some (b,nk,ao)->H.get b=some ao
 dom:∀b o,H.get b=some o->h.get b=some o\/∃d∈dn,Ls listed d.x.i/\∃nk,d.b=some (b,nk,o)
 res:∀d∈dn,∀b nk ao,d.b=some (b,nk,ao)->h.get b=none/\b<h.nx/\True/\h.gl<=b/\h0.nx<=b/\(¬Ls listed d.x.i->ι b=none)
 bu:∀d∈dn,∀d'∈dn,∀b nk ao nk' ao',d.b=some (b,nk,ao)->d'.b=some (b,nk',ao')->d=d'
section
variable {fr:Fr}{ops:Array Oper} {ι0:Iota}{h0:Heap}{w0:World}{T:Nat}{dn:List Done}{e:Env}{ds:List ADef}{h H:Heap}{listed:Array Bool}{a:Act}{w:World}
theorem ZAr {i k:Nat}(hi:i<listed.size):Ls (listed.setIfInBounds i true) k ↔ (k=i\/Ls listed k):=by
 by_cases e:i=k
 ·subst e
  simp[hi]
 ·unfold Ls
  rw[getD_set_ne false e]
  constructor
  ·exact .inr
  ·rintro (h|h)
   ·exact absurd h.symm e
   ·exact h
theorem DI.quiets {qs:List Ix}{T':Nat}{dn':List Done}{e':Env}{h':Heap}(I:DI V fr ops ι0 h0 w0 T dn e ds h H listed ι a w)(hq:quiets P V bg fr ops qs dn e h=some (dn',e',h'))(ht:ZKh qs T=some T')
  (hm:∀x∈qs,x∈ixs ops.toList):DI V fr ops ι0 h0 w0 T' dn' e' ds h' ⟨H.t,h'.nx,H.gl⟩ listed ι a w:=by
 obtain⟨new,n1,n2,n3,n4,n5,n6,n7,n8,n9,n10,n11,n12,n13,n14⟩:=ZMS qs dn e h T hq ht I.ei;subst n1;have hT:∀k,T.testBit k=true->T'.testBit k=true:=fun k hk=>(n14 k).2 (.inl hk)
 have hnl:∀d∈new,¬Ls listed d.x.i:=fun d hd hl=>by
  have h1:=(n13 _ (n2 d hd)).1;have h2:=I.sub _ hl;rw[h1] at h2;cases h2
 have hget:∀b,h'.get b=h.get b:=fun b=>by unfold Heap.get;rw[n8]
 have hgetH:∀b,(⟨H.t,h'.nx,H.gl⟩:Heap).get b=H.get b:=fun b=>rfl;have hnle:H.nx<=h'.nx:=by rw[I.nx];exact n10
 refine⟨I.lsz,I.closed,fun k hk=>hT k (I.sub k hk),?_,?_,?_,?_,?_,n5,I.sz,I.df,?_,?_,rfl,?_,?_,?_,?_,?_,?_⟩
 ·intro x hx hxT hxe
  rcases (n14 x.i).1 hxT with g|⟨y,g1,g2⟩
  ·exact I.eff x hx g hxe
  ·have:y=x:=ZDp (hm y g1) hx g2
   subst this;have:=(n13 y g1).2;rw[this] at hxe;cases hxe
 ·intro d hd
  rcases List.mem_append.1 hd with g|g
  ·exact⟨hm _ (n2 d g),(n14 _).2 (.inr ⟨d.x,n2 d g,rfl⟩),n6 _ (n2 d g)⟩
  ·obtain⟨a1,a2,a3⟩:=I.dnin d g
   exact⟨a1,hT _ a2,a3⟩
 ·intro x hx hxT hxl
  rcases (n14 x.i).1 hxT with g|⟨y,g1,g2⟩
  ·obtain⟨d,a1,a2⟩:=I.cov x hx g hxl
   exact⟨d,List.mem_append_right _ a1,a2⟩
  ·have:y=x:=ZDp (hm y g1) hx g2
   subst this;obtain⟨d,a1,a2⟩:=n3 y g1;exact⟨d,List.mem_append_left _ a1,a2⟩
 ·intro d hd d' hd' heq
  rcases List.mem_append.1 hd with g|g <;> rcases List.mem_append.1 hd' with g'|g'
  ·exact n4 d g d' g' heq
  ·exfalso
   have h1:=(n13 _ (n2 d g)).1;have h2:=(I.dnin d' g').2.1;rw[heq,h2] at h1;cases h1
  ·exfalso
   have h1:=(n13 _ (n2 d' g')).1;have h2:=(I.dnin d g).2.1;rw[<-heq,h2] at h1;cases h1
  ·exact I.uniq d g d' g' heq
 ·intro t v hv
  rcases n7 t v hv with ⟨x,g1,g2⟩|g
  ·obtain⟨d,a1,a2⟩:=n3 x g1
   exact .inl ⟨x,hm x g1,(n14 _).2 (.inr ⟨x,g1,rfl⟩),by rw[<-a2];exact hnl d a1,g2⟩
  ·rcases I.slots t v g with ⟨x,a1,a2,a3,a4⟩|g
   ·exact .inl ⟨x,a1,hT _ a2,a3,a4⟩
   ·exact .inr g
 ·exact⟨I.hr.obj,I.hr.inj,fun b bi hb=>Nat.lt_of_lt_of_le (I.hr.fresh b bi hb) hnle,I.hr.glo,Nat.le_trans I.hr.gn hnle⟩
 ·exact⟨I.adv.sub,I.adv.sz,I.adv.fr,I.adv.dm,Nat.le_trans I.adv.nx hnle,I.adv.old,I.adv.gl,I.adv.os,I.adv.out,I.adv.dr⟩
 ·rw[n9];exact I.gl
 ·intro b o hb
  rw[hget] at hb;exact I.hin b o hb
 ·intro d hd hl b nk ao hb
  rcases List.mem_append.1 hd with g|g
  ·exact absurd hl (hnl d g)
  ·exact I.lay d g hl b nk ao hb
 ·intro b o hb
  rw[hgetH] at hb;rw[hget]
  rcases I.dom b o hb with g|⟨d,g1,g2⟩
  ·exact .inl g
  ·exact .inr ⟨d,List.mem_append_right _ g1,g2⟩
 ·intro d hd b nk ao hb
  rw[hget,n9]
  rcases List.mem_append.1 hd with g|g
  ·obtain⟨a1,a2,a3⟩:=n11 d g b nk ao hb
   have hno:ι b=none:=by
    cases hq:ι b with
    | none=>rfl
    | some bi=>have:=I.hr.fresh b bi hq;rw[I.nx] at this;omega
   have hgn:h.get b=none:=by
    cases hq:h.get b with
    | none=>rfl
    | some o =>
     obtain⟨bi,_,e1,_⟩:=I.hr.obj b o (I.hin b o hq);rw[hno] at e1;cases e1
   refine⟨hgn,a2,a3,?_,?_,fun _=>hno⟩
   ·have:=I.hr.gn;rw[I.nx,I.gl] at this;omega
   ·have:=I.adv.nx;rw[I.nx] at this;omega
  ·obtain⟨a1,a2,a3,a4,a5,a6⟩:=I.res d g b nk ao hb
   exact⟨a1,Nat.lt_of_lt_of_le a2 n10,a3,a4,a5,a6⟩
 ·intro d hd d' hd' b nk ao nk' ao' hb hb'
  rcases List.mem_append.1 hd with g|g <;> rcases List.mem_append.1 hd' with g'|g'
  ·exact n12 d g d' g' b nk ao nk' ao' hb hb'
  ·exfalso
   have h1:=(n11 d g b nk ao hb).1;have h2:=(I.res d' g' b nk' ao' hb').2.1;omega
  ·exfalso
   have h1:=(n11 d' g' b nk' ao' hb').1;have h2:=(I.res d g b nk ao hb).2.1;omega
  ·exact I.bu d g d' g' b nk ao nk' ao' hb hb'
theorem DI.seen1 {x:Ix}(I:DI V fr ops ι0 h0 w0 T dn e ds h H listed ι a w)(he:ZB7 (ixs ops.toList)=true)(hso:ZDv ops (ixs ops.toList)=true)(hx:x∈ixs ops.toList)(hl:¬Ls listed x.i)
  (hr:∀ed∈x.o.after,Region.binds .any ed=true->Ls listed ed.on):∀t v,t∈x.o.looksAt ops->lk t e=some v->∃v',a.tmps[t]?=some v'/\VR ι v v':=by
 intro t v ht hlk
 rcases I.slots t v hlk with ⟨y,y1,y2,y3,y4⟩|g
 ·exfalso
  unfold ZDv at hso;have h1:=List.all_eq_true.1 hso y y1;rw[y4] at h1;simp only at h1;have h2:=List.all_eq_true.1 h1 x hx;simp only[Bool.or_eq_true,Bool.and_eq_true,Bool.not_eq_true'] at h2;have hye:ZDV y=false:=by
   cases hq:ZDV y with
   | false=>rfl
   | true=>exact absurd (I.eff y y1 y2 hq) y3
  rcases h2 with ((⟨h2,h3⟩|h2)|h2)|h2
  ·have:x=y:=ZDp hx y1 (Nat.eq_of_beq_eq_true h2)
   subst this;rw[hye] at h3
   rcases h3 with h3|h3
   ·cases h3
   ·rw[List.contains_iff_mem.2 ht] at h3;cases h3
  ·have:(ZOI ops x.o).contains t=true:=List.contains_iff_mem.2 (List.mem_append_left _ ht)
   rw[this] at h2;cases h2
  ·exact y3 (ZIN he I.closed (x.i+1) x (Nat.lt_succ_self _) hx hr y.i h2)
  ·rw[hye] at h2;cases h2.1
 ·exact g
theorem DI.view {x:Ix}(I:DI V fr ops ι0 h0 w0 T dn e ds h H listed ι a w)(he:ZB7 (ixs ops.toList)=true)(hso:ZDv ops (ixs ops.toList)=true)(hx:x∈ixs ops.toList)(hl:¬Ls listed x.i)
  (hr:∀ed∈x.o.after,Region.binds .any ed=true->Ls listed ed.on):FR V fr ι (view V fr.fn e (x.o.looksAt ops)) ds a:=by
 obtain⟨v1,v2⟩:=ZEX (V:=V) (fn:=fr.fn) (e:=e) (x.o.looksAt ops);exact⟨fun t v hv=>I.seen1 he hso hx hl hr t v (v2 t v hv).1 (v2 t v hv).2,v1,I.sz,I.df⟩
theorem DI.envQ {x:Ix}(I:DI V fr ops ι0 h0 w0 T dn e ds h H listed ι a w)(he:ZB7 (ixs ops.toList)=true)(hso:ZDv ops (ixs ops.toList)=true)(hx:x∈ixs ops.toList)(hl:¬Ls listed x.i)
  (hr:∀ed∈x.o.after,Region.binds .any ed=true->Ls listed ed.on):EnvR ι (ZFL e (x.o.looksAt ops)) a.tmps :=
 fun t v hv=>I.seen1 he hso hx hl hr t v (ZFK _ t v hv).1 (ZFK _ t v hv).2
theorem DI.step {F:Fence}{Q:Exit->Act->World->Prop}{K:Act->World->Prop}{x:Ix}(I:DI V fr ops ι0 h0 w0 T dn e ds h H listed ι a w)(hst:∀d∈dn,ZSC P bg ops h e d)(hbig:h.nx<=bg)(he:ZB7 (ixs ops.toList)=true)(hso:ZDv ops (ixs ops.toList)=true)
  (hF:FenR ι fr.rd F) (hx:x∈ixs ops.toList) (hT:T.testBit x.i=true) (hl:¬Ls listed x.i) (hr:∀ed∈x.o.after,Region.binds .any ed=true->Ls listed ed.on)
  (hK:∀ι' a' w' H',Sub ι ι'->DI V fr ops ι0 h0 w0 T dn e ds h H' (listed.setIfInBounds x.i true) ι' a' w'->K a' w'):wpOpIn F 0 P ops Q x.i K a w:=by
 obtain⟨d,hd,rfl⟩:=I.cov x hx hT hl;have hxo:=(ZDH hx).1;have hlt:d.x.i<listed.size:=by rw[I.lsz];exact (Array.getElem?_eq_some_iff.1 hxo).1
 have henv:EnvR ι (ZFL e (d.x.o.looksAt ops)) a.tmps:=I.envQ he hso hx hl hr;obtain⟨hslot,hs2⟩:=hst d hd;have hrh:HR ι (hz bg h) w.heap:=I.hr.weaken I.hin (by rw[I.nx];exact hbig) I.gl.symm
 have tail:∀(ι':Iota) (v':Value) (w':World) (H':Heap),Sub ι ι'->VR ι' d.v v'->HR ι' H' w'.heap->Adv ι0 h0 w0 ι' H' w'->H'.nx=h.nx->H'.gl=h.gl->(∀b o,H.get b=some o->H'.get b=some o) →
   (∀b o,H'.get b=some o->H.get b=some o\/∃nk,d.b=some (b,nk,o))->(∀b nk ao,d.b=some (b,nk,ao)->H'.get b=some ao)->(∀b,ι b=none->(∀nk ao,d.b≠some (b,nk,ao))->b<h.nx->ι' b=none)->K (a.put d.x.o.dst v') w':=by
  intro ι' v' w' H' hsub hv hrr hadv hnx hgl hin hdom hself hnone;refine hK ι' _ w' H' hsub ?_;refine⟨by simp[I.lsz],?_,?_,?_,I.dnin,?_,I.uniq,?_,I.ei,?_,?_,hrr,hadv,hnx,hgl,fun b o hb=>hin b o (I.hin b o hb),?_,?_,?_,I.bu⟩
  ·intro k hk o ho ed hed hb
   rcases (ZAr hlt).1 hk with rfl|g
   ·rw[hxo] at ho;cases ho
    exact (ZAr hlt).2 (.inr (hr ed hed hb))
   ·exact (ZAr hlt).2 (.inr (I.closed k g o ho ed hed hb))
  ·intro k hk
   rcases (ZAr hlt).1 hk with rfl|g
   ·exact hT
   ·exact I.sub k g
  ·intro y hy hyT hye
   exact (ZAr hlt).2 (.inr (I.eff y hy hyT hye))
  ·intro y hy hyT hyl
   exact I.cov y hy hyT fun hq=>hyl ((ZAr hlt).2 (.inr hq))
  ·intro t v hv
   by_cases hdst:d.x.o.dst=some t
   ·have:=hslot t hdst
    rw[this] at hv;cases hv;have htl:t<a.tmps.size:=by rw[I.sz];exact (I.dnin d hd).2.2 t hdst
    exact .inr ⟨v',by simp[Act.put,hdst,htl],hv⟩
   ·have hsame:(a.put d.x.o.dst v').tmps[t]?=a.tmps[t]?:=by
     cases hq:d.x.o.dst with
     | none=>rfl
     | some s =>
      have hne:s≠t:=fun e=>hdst (by rw[hq,e]);simp only[Act.put];rw[Array.getElem?_setIfInBounds_ne hne]
    rcases I.slots t v hv with ⟨y,y1,y2,y3,y4⟩|⟨v1,g1,g2⟩
    ·refine .inl ⟨y,y1,y2,fun hq=>?_,y4⟩
     rcases (ZAr hlt).1 hq with g|g
     ·have:y=d.x:=ZDp y1 hx g
      rw[this] at y4;exact hdst y4
     ·exact y3 g
    ·exact .inr ⟨v1,by rw[hsame];exact g1,g2.mono hsub⟩
  ·have:(a.put d.x.o.dst v').tmps.size=a.tmps.size:=by cases d.x.o.dst <;> simp[Act.put]
   rw[this];exact I.sz
  ·have:(a.put d.x.o.dst v').defers=a.defers:=by cases d.x.o.dst <;> rfl
   rw[this];exact I.df.mono hsub
  ·intro d' hd' hl' b nk ao hb
   rcases (ZAr hlt).1 hl' with g|g
   ·have:=I.uniq d' hd' d hd g
    subst this;exact hself b nk ao hb
   ·exact hin b ao (I.lay d' hd' g b nk ao hb)
  ·intro b o hb
   rcases hdom b o hb with g|⟨nk,g⟩
   ·rcases I.dom b o g with g|⟨d',g1,g2,g3⟩
    ·exact .inl g
    ·exact .inr ⟨d',g1,(ZAr hlt).2 (.inr g2),g3⟩
   ·exact .inr ⟨d,hd,(ZAr hlt).2 (.inl rfl),nk,g⟩
  ·intro d' hd' b nk ao hb
   obtain⟨a1,a2,a3,a4,a5,a6⟩:=I.res d' hd' b nk ao hb;refine⟨a1,a2,a3,a4,a5,fun hq=>?_⟩;refine hnone b (a6 fun hq'=>hq ((ZAr hlt).2 (.inr hq'))) (fun nk' ao' hb'=>?_) a2;have:=I.bu d' hd' d hd b nk ao nk' ao' hb hb';subst this;exact hq ((ZAr hlt).2 (.inl rfl))
 have hnd:∀c,d.x.o.op≠.defer c:=by
  intro c hc;have:ZDV d.x=true:=by unfold ZDV;rw[hc];rfl
  exact hl (I.eff d.x hx hT this)
 unfold wpOpIn;simp only[hxo]
 rcases hs2 with ⟨hg,hb,hv⟩|⟨hg,hk,hb,h1,hop⟩|⟨hg,hk,b,nk,ao,hb,hnew,hv⟩
 ·rw[ZCP henv hg]
  simp only[Bool.false_eq_true,if_false];exact⟨fun f _=>hF.fn f,tail ι _ w H (.refl _) (by rw[hv];exact .tup .nil) I.hr I.adv I.nx I.gl (fun b o h=>h) (fun b o h=>.inl h) (fun b nk ao hq=>by rw[hb] at hq;cases hq) (fun b hb _ _=>hb)⟩
 ·rw[ZCP henv hg]
  simp only[if_true];refine⟨fun f _=>hF.fn f,?_⟩;rw[Oper.semAt_eq _ _ _ hnd];have:=ZS5 hk hop;subst this;obtain⟨ι',v',w',hrun,hv,hr',ha'⟩:=ZEJ (P:=P) (a:=a) hrh henv hop;have hrz:HR ι ⟨H.t,bg,H.gl⟩ w.heap:=I.hr.weaken (fun _ _ h=>h) (by rw[I.nx];exact hbig) rfl
  obtain⟨j1,j2⟩:=hrz.join (h:=hz bg h) (H':=⟨H.t,bg,H.gl⟩) I.hin hr' ha' rfl I.gl.symm (fun b o hb=>by
   cases hq:(hz bg h).get b with
   | none=>exact .inr ⟨hb,rfl⟩
   | some o2 =>
    have h3:=I.hin b o2 hq;have h4:H.get b=some o:=hb;rw[h4] at h3;cases h3;exact .inl rfl) rfl I.gl
  have hold:∀b,b<bg->ι' b=ι b:=fun b hb=>j2.old b hb;have hHn:H.nx<=bg:=by rw[I.nx];exact hbig
  have k1:HR ι' H w'.heap:=⟨j1.obj,j1.inj,fun b bi hb=>by
   have:=j1.fresh b bi hb;rw[hold b this] at hb;exact I.hr.fresh b bi hb,j1.glo,I.hr.gn⟩
  have k2:Adv ι0 h0 w0 ι' H w':=by
   refine⟨I.adv.sub.trans j2.sub,Nat.le_trans I.adv.sz j2.sz,fun c hc hnr=>?_,fun c hrg hc=>?_,I.adv.nx,fun c hc=>?_,I.adv.gl,j2.os.trans I.adv.os,j2.out.trans I.adv.out,fun e=>⟨(j2.dr (I.adv.gl.trans e)).1.trans (I.adv.dr e).1,Nat.le_trans (I.adv.dr e).2 (j2.dr (I.adv.gl.trans e)).2⟩⟩
   ·rw[j2.fr c (Nat.lt_of_lt_of_le hc I.adv.sz) (fun hrg=>hnr (I.adv.dm c hrg hc)),I.adv.fr c hc hnr]
   ·exact I.adv.dm c (j2.dm c hrg (Nat.lt_of_lt_of_le hc I.adv.sz)) hc
   ·have:c<bg:=Nat.lt_of_lt_of_le hc (Nat.le_trans I.adv.nx hHn)
    rw[hold c this];exact I.adv.old c hc
  have fin:K (a.put d.x.o.dst v') w':=tail ι' v' w' H ha'.sub hv k1 k2 I.nx I.gl (fun b o h=>h) (fun b o h=>.inl h) (fun b nk ao hq=>by rw[hb] at hq;cases hq)
   (fun b hb _ hlt'=>by rw[hold b (Nat.lt_of_lt_of_le hlt' hbig)];exact hb)
  rcases hrun with hrun|⟨hrun,rfl⟩
  ·rw[hrun,Oper.uponIn_value];exact fin
  ·rw[hrun,Oper.uponIn_skip];exact fin
 ·rw[ZCP henv hg]
  simp only[if_true];refine⟨fun f _=>hF.fn f,?_⟩;rw[Oper.semAt_eq _ _ _ hnd];obtain⟨o',bi,hrun,hblk,hor⟩:=ZE1 (P:=P) (a:=a) hrh henv hnew;obtain⟨a1,a2,a3,a4,a5,a6⟩:=I.res d hd b nk ao hb;have hno:=a6 hl
  have hsub:Sub ι (upd ι b bi):=fun c x hc=>by
   have:c≠b:=fun e=>by rw[e,hno] at hc;cases hc
   rw[upd_other _ _ this];exact hc
  obtain⟨j1,_,j3,j4⟩:=I.hr.addAt (b:=b) (o:=ao) (o':=o') hblk hno (by rw[I.nx];exact a2) a3 (by rw[I.gl];exact a4) (hor.mono hsub)
  have hadv:Adv ι0 h0 w0 (upd ι b bi) (H.set b ao) { w with heap:=w.heap.push o' }:=by
   refine⟨I.adv.sub.trans hsub,by simp;have:=I.adv.sz;omega,fun c hc hnr=>?_,fun c hrg hc=>?_,I.adv.nx,fun c hc=>?_,I.adv.gl,I.adv.os,I.adv.out,I.adv.dr⟩
   ·rw[j3 c (Nat.lt_of_lt_of_le hc I.adv.sz)];exact I.adv.fr c hc hnr
   ·exact I.adv.dm c (j4 c hrg (Nat.lt_of_lt_of_le hc I.adv.sz)) hc
   ·rw[upd_other _ _ (by omega)];exact I.adv.old c hc
  have hHb:H.get b=none:=by
   cases hq:H.get b with
   | none=>rfl
   | some o =>
    obtain⟨bi2,_,e1,_⟩:=I.hr.obj b o hq;rw[hno] at e1;cases e1
  have hsame:(H.set b ao).get b=some ao:=by unfold Heap.get Heap.set;exact ZAm _ b (some ao)
  have hvr:VR (upd ι b bi) d.v (nk.mk w.heap.size):=by
   rw[hv,<-hblk];exact NK.rel (upd_same _ _ _)
  rw[hrun,Oper.uponIn_value]
  refine tail (upd ι b bi) _ { w with heap:=w.heap.push o' } (H.set b ao) hsub hvr j1 hadv I.nx I.gl ?_ ?_ ?_ ?_
  ·intro c o hc
   have:c≠b:=fun e=>by rw[e,hHb] at hc;cases hc
   rw[Heap.get_set_other _ this];exact hc
  ·intro c o hc
   by_cases e1:c=b
   ·subst e1
    rw[hsame] at hc;cases hc;exact .inr ⟨nk,hb⟩
   ·rw[Heap.get_set_other _ e1] at hc;exact .inl hc
  ·intro c nk2 ao2 hc
   rw[hb] at hc;cases hc;exact hsame
  ·intro c hc hne _
   have:c≠b:=fun e=>by subst e;exact hne nk ao hb
   rw[upd_other _ _ this];exact hc
end
variable {P:Program}{V:Nat->Nat->Bool} {ι:Iota}{bg:Nat}
section
variable {fr:Fr}{ops:Array Oper} {ι0:Iota}{h0:Heap}{w0:World}{T:Nat}{dn:List Done}{e:Env}{ds:List ADef}{h H:Heap}{listed:Array Bool}{a:Act}{w:World}
theorem DI.seen {x:Ix}(I:DI V fr ops ι0 h0 w0 T dn e ds h H listed ι a w)(he:ZB7 (ixs ops.toList)=true)(hx:x∈ixs ops.toList)(hr:∀ed∈x.o.after,Region.binds .any ed=true->Ls listed ed.on) :
  ∀b o,(ZA8 (dn.filter (ZAd x)) h).get b=some o->H.get b=some o:=by
 intro b o hb
 rcases ZDN hb with ⟨d,g1,nk,g2⟩|⟨g,_⟩
 ·obtain⟨m1,m2⟩:=List.mem_filter.1 g1
  exact I.lay d m1 (ZIN he I.closed (x.i+1) x (Nat.lt_succ_self _) hx hr d.x.i m2) b nk o g2
 ·exact I.hin b o g
theorem DI.effect {x:Ix} {ι':Iota}{h':Heap}{w':World}{a':Act}{e1 e2:Env}{ds':List ADef}{v':Value}(I:DI V fr ops ι0 h0 w0 T dn e ds h H listed ι a w)(he:ZB7 (ixs ops.toList)=true)
  (hx:x∈ixs ops.toList) (hT:T.testBit x.i=false) (hr:∀ed∈x.o.after,Region.binds .any ed=true->Ls listed ed.on)
  (hat:a'.tmps=(a.put x.o.dst v').tmps) (ha:Adv ι (ZA8 (dn.filter (ZAd x)) h) w ι' h' w') (hr':HR ι' h' w'.heap) (hf:FR V fr ι' e1 ds' a') (ht1:ZLN V fr.fn x.o e1 e=some e2) :
  ∃H',DI V fr ops ι0 h0 w0 (Nat.lor T (Nat.shiftLeft 1 x.i)) (dn.filter fun d=>!ZAd x d) e2 ds' h' H' (listed.setIfInBounds x.i true) ι' a' w':=by
 have hxo:=(ZDH hx).1;have hlt:x.i<listed.size:=by rw[I.lsz];exact (Array.getElem?_eq_some_iff.1 hxo).1
 have hcl:∀j,Nat.testBit x.m j=true->Ls listed j:=ZIN he I.closed (x.i+1) x (Nat.lt_succ_self _) hx hr;have hseen:=I.seen he hx hr;obtain⟨hnx2,hgl2⟩:=ZEU (dn.filter (ZAd x)) h;have hmem:∀d,d∈(dn.filter fun d=>!ZAd x d) ↔ d∈dn/\ZAd x d=false:=by
  intro d;rw[List.mem_filter];simp
 let lo:=(dn.filter fun d=>!ZAd x d).filter fun d=>listed.getD d.x.i false
 have hlo:∀d,d∈lo ↔ d∈dn/\ZAd x d=false/\Ls listed d.x.i:=by
  intro d
  show d∈((dn.filter fun d=>!ZAd x d).filter fun d=>listed.getD d.x.i false) ↔ _
  rw[List.mem_filter,hmem,and_assoc]
 have hloose:∀d∈lo,∀b nk ao,d.b=some (b,nk,ao)->H.get b=some ao/\(ZA8 (dn.filter (ZAd x)) h).get b=none/\True:=by
  intro d hd b nk ao hb;obtain⟨d1,d2,d3⟩:=(hlo d).1 hd;obtain⟨a1,a2,a3,_⟩:=I.res d d1 b nk ao hb;refine⟨I.lay d d1 d3 b nk ao hb,?_,a3⟩;rw[ZGm]
  ·exact a1
  ·intro d' hd' nk' ao' hb'
   obtain⟨m1,m2⟩:=List.mem_filter.1 hd';have:=I.bu d d1 d' m1 b nk ao nk' ao' hb hb';subst this;rw[d2] at m2;cases m2
 have hnosee:∀d∈lo,∀b nk ao,d.b=some (b,nk,ao)->h'.get b=none:=by
  intro d hd b nk ao hb;obtain⟨q1,q2,_⟩:=hloose d hd b nk ao hb;obtain⟨_,_,_,_,_,_,_,g,_⟩:=I.hr.loose hseen hr' ha q1 q2;exact g
 have hlou:∀d∈lo,∀d'∈lo,∀b nk ao nk' ao',d.b=some (b,nk,ao)->d'.b=some (b,nk',ao')->d=d' :=
  fun d hd d' hd'=>I.bu d ((hlo d).1 hd).1 d' ((hlo d').1 hd').1
 obtain⟨hnx3,hgl3⟩:=ZEU lo h'
 obtain⟨j1,j2⟩:=I.hr.join (H':=ZA8 lo h') hseen hr' ha (by rw[hnx2,I.nx]) (by rw[hgl2,I.gl]) (fun b o hb=>by
  rcases ZDN hb with ⟨d,g1,nk,g2⟩|⟨g,_⟩
  ·obtain⟨q1,q2,_⟩:=hloose d g1 b nk o g2
   exact .inr ⟨q1,q2⟩
  ·exact .inl g) hnx3 hgl3
 have hTs:∀k,(Nat.lor T (Nat.shiftLeft 1 x.i)).testBit k=true ↔ (T.testBit k=true\/x.i=k):=by
  intro k;rw[testBit_set];simp
 have hnei:∀y,T.testBit y=true->y≠x.i:=fun y hy e=>by rw[e,hT] at hy;cases hy
 refine⟨ZA8 lo h',by simp[I.lsz],?_,?_,?_,?_,?_,?_,?_,?_,hf.sz,hf.df,j1,I.adv.trans j2,hnx3,hgl3,?_,?_,?_,?_,?_⟩
 ·intro k hk o ho ed hed hb
  rcases (ZAr hlt).1 hk with rfl|g
  ·rw[hxo] at ho;cases ho
   exact (ZAr hlt).2 (.inr (hr ed hed hb))
  ·exact (ZAr hlt).2 (.inr (I.closed k g o ho ed hed hb))
 ·intro k hk
  rcases (ZAr hlt).1 hk with rfl|g
  ·exact (hTs _).2 (.inr rfl)
  ·exact (hTs _).2 (.inl (I.sub k g))
 ·intro y hy hyT hye
  rcases (hTs _).1 hyT with g|g
  ·exact (ZAr hlt).2 (.inr (I.eff y hy g hye))
  ·exact (ZAr hlt).2 (.inl g.symm)
 ·intro d hd
  obtain⟨d1,d2⟩:=(hmem d).1 hd;obtain⟨g1,g2,g3⟩:=I.dnin d d1;exact⟨g1,(hTs _).2 (.inl g2),g3⟩
 ·intro y hy hyT hyl
  have hyx:y.i≠x.i:=fun e=>hyl ((ZAr hlt).2 (.inl e));have hyT':T.testBit y.i=true:=((hTs _).1 hyT).resolve_right fun e=>hyx e.symm;have hyl':¬Ls listed y.i:=fun hq=>hyl ((ZAr hlt).2 (.inr hq));obtain⟨d,d1,d2⟩:=I.cov y hy hyT' hyl';refine⟨d,(hmem d).2 ⟨d1,?_⟩,d2⟩
  cases hq:ZAd x d with
  | false=>rfl
  | true=>exact absurd (hcl _ hq) (by rw[d2];exact hyl')
 ·intro d hd d' hd'
  exact I.uniq d ((hmem d).1 hd).1 d' ((hmem d').1 hd').1
 ·intro t v hv
  by_cases hdst:x.o.dst=some t
  ·unfold ZLN at ht1
   rw[hdst] at ht1;simp only at ht1
   split at ht1
   ·rename_i v1 hv1
    cases ht1;rw[ZBy I.ei] at hv;simp at hv;subst hv;exact .inr (hf.env t v1 hv1)
   ·cases ht1
  ·have hlk:lk t e=some v:=by
    unfold ZLN at ht1
    split at ht1
    ·cases ht1;exact hv
    ·rename_i s hs
     split at ht1
     ·cases ht1
      rw[ZBy I.ei] at hv;have hne:¬s=t:=fun e=>hdst (by rw[hs,e]);simp[hne] at hv;exact hv
     ·cases ht1
   have hsame:a'.tmps[t]?=a.tmps[t]?:=by
    rw[hat]
    cases hq:x.o.dst with
    | none=>rfl
    | some s =>
     have hne:s≠t:=fun e=>hdst (by rw[hq,e]);simp only[Act.put];rw[Array.getElem?_setIfInBounds_ne hne]
   rcases I.slots t v hlk with ⟨y,y1,y2,y3,y4⟩|⟨v1,g1,g2⟩
   ·refine .inl ⟨y,y1,(hTs _).2 (.inl y2),fun hq=>?_,y4⟩
    rcases (ZAr hlt).1 hq with g|g
    ·exact hnei _ y2 g
    ·exact y3 g
   ·exact .inr ⟨v1,by rw[hsame];exact g1,g2.mono ha.sub⟩
 ·unfold ZLN at ht1
  split at ht1
  ·cases ht1;exact I.ei
  ·split at ht1
   ·cases ht1;exact I.ei.putE _ _
   ·cases ht1
 ·intro b o hb
  rw[ZGm]
  ·exact hb
  ·intro d hd nk ao hq
   have:=hnosee d hd b nk ao hq;rw[this] at hb;cases hb
 ·intro d hd hl b nk ao hb
  obtain⟨d1,d2⟩:=(hmem d).1 hd;have hl':Ls listed d.x.i:=((ZAr hlt).1 hl).resolve_left fun e=>hnei _ (I.dnin d d1).2.1 e;have hdlo:d∈lo:=(hlo d).2 ⟨d1,d2,hl'⟩;exact ZMs hlou hdlo hb (hloose d hdlo b nk ao hb).2.2
 ·intro b o hb
  rcases ZDN hb with ⟨d,g1,nk,g2⟩|⟨g,_⟩
  ·obtain⟨d1,d2,d3⟩:=(hlo d).1 g1
   exact .inr ⟨d,(hmem d).2 ⟨d1,d2⟩,(ZAr hlt).2 (.inr d3),nk,g2⟩
  ·exact .inl g
 ·intro d hd b nk ao hb
  obtain⟨d1,d2⟩:=(hmem d).1 hd;obtain⟨a1,a2,a3,a4,a5,a6⟩:=I.res d d1 b nk ao hb;have hb2:b<(ZA8 (dn.filter (ZAd x)) h).nx:=by rw[hnx2];exact a2
  have hpend:¬Ls listed d.x.i->ι' b=none:=fun hq=>by rw[ha.old b hb2];exact a6 hq
  refine⟨?_,Nat.lt_of_lt_of_le hb2 ha.nx,a3,by rw[ha.gl,hgl2];exact a4,a5,fun hq=>hpend fun hq'=>hq ((ZAr hlt).2 (.inr hq'))⟩
  by_cases hq:Ls listed d.x.i
  ·exact hnosee d ((hlo d).2 ⟨d1,d2,hq⟩) b nk ao hb
  ·cases hg:h'.get b with
   | none=>rfl
   | some o =>
    obtain⟨bi,_,e1,_⟩:=hr'.obj b o hg;rw[hpend hq] at e1;cases e1
 ·intro d hd d' hd'
  exact I.bu d ((hmem d).1 hd).1 d' ((hmem d').1 hd').1
theorem ZOX {p:Nat->Bool}{t:Nat}{v:Value}:∀{l:List (Nat×Value)},lkL t (l.filter fun q=>p q.1)=some v->p t=true/\lkL t l=some v:=by
 intro l
 induction l with
 | nil=>intro h;simp[ZCW] at h
 | cons q l ih =>
  intro h
  by_cases hq:p q.1=true
  ·rw[List.filter_cons_of_pos (by simpa using hq),ZBE] at h
   rw[ZBE]
   by_cases e:q.1=t
   ·rw[if_pos e] at h ⊢;exact⟨by rw[<-e];exact hq,h⟩
   ·rw[if_neg e] at h ⊢;exact ih h
  ·rw[List.filter_cons_of_neg (by simpa using hq)] at h
   obtain⟨h1,h2⟩:=ih h;have e:¬q.1=t:=fun e=>hq (by rw[e];exact h1);rw[ZBE,if_neg e];exact⟨h1,h2⟩
theorem ZII {fn:FuncId}(hi:EI V fn e):EI V fn (scrub ops.toList e)/\∀t v,lk t (scrub ops.toList e)=some v->lk t e=some v/\∀o∈ops.toList,o.dst≠some t:=by
 refine⟨⟨(fun p hp=>nomatch hp),fun p hp=>hi.2 p (List.mem_filter.1 hp).1⟩,fun t v hv=>?_⟩;rw[ZF6] at hv;simp only[scrub,ZCW] at hv
 obtain⟨h1,h2⟩:=ZOX (p:=fun k=>ops.toList.all fun o=>match o.dst with|some d=>!Nat.beq d k|none=>true) hv
 refine⟨ZNr hi (by rw[ZF6];simp only[ZCW];exact h2),fun o ho hd=>?_⟩;have:=List.all_eq_true.1 h1 o ho;rw[hd] at this;simp at this
theorem DI.done (I:DI V fr ops ι0 h0 w0 T dn e ds h H listed ι a w)(he:ZB7 (ixs ops.toList)=true)(hready:Region.ready .any ops listed=[]):∀k,k<ops.size->Ls listed k:=by
 intro k
 induction k using Nat.strongRecOn with
 | _ k ih =>
  intro hk
  cases hq:listed.getD k false with
  | true=>exact hq
  | false =>
   exfalso
   have hmem:k∈Region.ready .any ops listed:=by
    rw[mem_ready];refine⟨?_,ops[k],by simp[hk],fun ed hed hb=>?_⟩
    ·have:k<listed.size:=by rw[I.lsz];exact hk
     simp[this] at hq ⊢;exact hq
    ·obtain⟨x,x1,x2,x3⟩:=ZM7 (ops:=ops) (k:=k) (o:=ops[k]) (by simp[hk])
     unfold ZB7 at he;have h4:=List.all_eq_true.1 (List.all_eq_true.1 he x x1) ed (by rw[x3];simpa using hed);simp only[hb,Bool.not_true,Bool.false_or] at h4;have hlt:ed.on<x.i:=Nat.le_of_ble_eq_true h4;rw[x2] at hlt;exact ih ed.on hlt (by omega)
   rw[hready] at hmem;cases hmem
end
variable (P:Program)(V:Nat->Nat->Bool)
structure OClo where
 run:Heap->Env->Option Value
noncomputable def opvC (x:Operand):OClo :=
 match x with
 | .tmp t=>⟨fun _ e=>lk t e⟩
 | .const v=>match flat v with
  | true=>⟨fun _ _=>some v⟩
  | false=>⟨fun _ _=>none⟩
 | .global g=>⟨fun h _=>@Bool.casesOn (fun _=>Option Value) (Nat.blt g h.gl) none (@Option.casesOn AO (fun _=>Option Value) (h.get g) none (fun _=>some (.pointer (some ⟨g,0,none⟩))))⟩
 | .func f=>⟨fun _ _=>some (.func (.func f) #[] #[])⟩
structure AClo where
 run:Heap->Env->AR
noncomputable def ar1 (r:Option Value)(h:Heap):AR:=@Option.rec Value (fun _=>AR) .no (fun v=>.ok v h) r
noncomputable def aopC (o:Oper):AClo :=
 match o.op with
 | .move x=>⟨fun h e=>ar1 ((opvC x).run h e) h⟩
 | .assign x=>⟨fun h e=>ar1 ((opvC x).run h e) h⟩
 | .pick c a b=>⟨fun h e=>ZKw h e c a b⟩
 | .alloc t=>⟨fun h _=>ZJL P t h⟩
 | .box t x=>⟨fun h e=>pBox h e t x⟩
 | .build t ps=>⟨fun h e=>ZGk P h e t ps⟩
 | .buildSlice t n ps=>⟨fun h e=>ZCk P h e t n ps⟩
 | .insert t m k v=>⟨fun h e=>ZBk P h e t m k v⟩
 | .load t x=>⟨fun h e=>ZKm P h e t x⟩
 | .store t x y=>⟨fun h e=>ZLp P h e t x y⟩
 | .nilCheck x=>⟨fun h e=>pNil h e x⟩
 | .binOp op t x y _=>⟨fun h e=>pBin P o h e op t x y⟩
 | .unOp op _ x=>⟨fun h e=>pUn P o h e op x⟩
 | .convert _ _ _=>⟨fun h e=>ZL3 P o h e⟩
 | .makeInterface t x=>⟨fun h e=>ZI0 P h e t x⟩
 | .makeFunc fn first captured=>⟨fun h e=>ZOi h e fn first captured⟩
 | .makeMap _ r=>⟨fun h _=>pMap h r⟩
 | .makeSlice t l c=>⟨fun h e=>ZO8 P h e t l c⟩
 | .slice t x lo hi mx=>⟨fun h e=>ZDB P o h e t x lo hi mx⟩
 | .fieldAddr t x f=>⟨fun h e=>ZCi P h e t x f⟩
 | .field t x f=>⟨fun h e=>ZJK P h e t x f⟩
 | .indexAddr t x i=>⟨fun h e=>ZB2 P h e t x i⟩
 | .index t x i=>⟨fun h e=>ZGn P h e t x i⟩
 | .lookup t x k ok=>⟨fun h e=>ZEG P h e t x k ok⟩
 | .mapUpdate t m k v=>⟨fun h e=>ZBk P h e t m k v⟩
 | .mapEntry t m k=>⟨fun h e=>ZQb P h e t m k⟩
 | .entryStore _ m s v=>⟨fun h e=>ZFC h e m s v⟩
 | .typeAssert x _ asserted ok=>⟨fun h e=>ZGH P h e x asserted ok⟩
 | .extract x i=>⟨fun h e=>ZEl h e x i⟩
 | .call c=>⟨fun h e=>ZEo P o h e c⟩
 | .range t x=>⟨fun h e=>ZIk P h e t x⟩
 | .next x isString=>⟨fun h e=>ZLC h e x isString⟩
 | _=>⟨fun _ _=>.no⟩
structure XClo where
 run:Ev->Fr->Env->List ADef->Heap->CR
structure PClo where
 run:Fr->Value->Env->List ADef->Heap->CR
noncomputable def finC (o:Oper):PClo :=
 match o.dst with
 | none=>⟨fun _ _ e ds h=>.ok .normal e ds h⟩
 | some d=>⟨fun fr v e ds h=>@Bool.casesOn (fun _=>CR) (Nat.blt d fr.nt) .no (.ok .normal (putE V fr.fn d v e) ds h)⟩
noncomputable def arF (r:AR)(k:Value->Heap->CR):CR:=@AR.rec (fun _=>CR) k .no r
noncomputable def vsF (r:VS)(k:Value->Heap->CR)(p:Value->Heap->CR):CR:=@VS.rec (fun _=>CR) k p .no r
noncomputable def ZVj (o:Oper)(c:Call):XClo :=
 match ZCR c.callee with
 | true=>⟨fun _ fr e ds h=>arF ((aopC P o).run h e) fun v h=>(finC V o).run fr v e ds h⟩
 | false=>⟨fun ev fr e ds h =>
  @Tgt.rec (fun _=>CR) (fun g args=>vsF (ev.call g args h) (fun v h=>(finC V o).run fr v e ds h) (fun v h=>.ok (.pan v) e ds h))
   (fun l args=>vsF (ZJN V ev l args h) (fun v h=>(finC V o).run fr v e ds h) (fun v h=>.ok (.pan v) e ds h))
   (arF (ZL3 P o h e) fun v h=>(finC V o).run fr v e ds h) (ZDX P h e c)⟩
noncomputable def doC (o:Oper):XClo :=
 match o.op with
 | .call c=>ZVj P V o c
 | .defer c=>⟨fun _ fr e ds h=>ZJv P V fr o c e ds h⟩
 | .panic x=>⟨fun _ _ e ds h=>ZKN x e ds h⟩
 | _=>⟨fun _ fr e ds h=>arF ((aopC P o).run h e) fun v h=>(finC V o).run fr v e ds h⟩
noncomputable def opC (ops:List Oper)(o:Oper):XClo :=
 match o.guard with
 | none=>doC P V o
 | some _=>⟨fun ev fr e ds h=>@Option.rec Bool (fun _=>CR) .no (fun b=>@Bool.rec (fun _=>CR) ((finC V o).run fr (.tuple ⟨[]⟩) e ds h) ((doC P V o).run ev fr e ds h) b) (gd ops o e)⟩
variable (P:Program)(V:Nat->Nat->Bool)
structure Unch (w w':World):Prop where
 sz:w.heap.size<=w'.heap.size
 same:∀c,c<w.heap.size->w'.heap[c]?=w.heap[c]?
 os:w'.os=w.os
 out:w'.output=w.output
structure ZO2 (w w':World):Prop extends Unch w w' where
 dr:w'.tape=w.tape/\w.drawn<=w'.drawn
theorem Unch.hr {ι:Iota}{h:Heap}{w w':World}(u:Unch w w')(hr:HR ι h w.heap):HR ι h w'.heap :=
 ⟨fun b o hb=>by
  obtain⟨bi,o',h1,h2,h3⟩:=hr.obj b o hb;exact⟨bi,o',h1,by rw[u.same _ (Array.getElem?_eq_some_iff.1 h2).1];exact h2,h3⟩,hr.inj,hr.fresh,hr.glo,hr.gn⟩
theorem ZO2.adv {ι:Iota}{h:Heap}{w w':World}(u:ZO2 w w'):Adv ι h w ι h w' :=
 ⟨.refl _,u.sz,fun c hc _=>u.same c hc,fun _ hr _=>hr,Nat.le_refl _,fun _ _=>rfl,rfl,u.os,u.out,fun _=>u.dr⟩
noncomputable def look (args:List Value)(l:List (List Value×Value)):Option Value :=
 @List.rec (List Value×Value) (fun _=>Option Value) none (fun p _ ih=>@Bool.rec (fun _=>Option Value) ih (some p.2) (veqL p.1 args)) l
variable {P V}
end Go.Dx
