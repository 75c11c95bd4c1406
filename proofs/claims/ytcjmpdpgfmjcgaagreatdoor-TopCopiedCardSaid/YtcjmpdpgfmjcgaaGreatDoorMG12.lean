/- Q1: contracts: a place is sought (rescue.put and the closure in it). -/
import Derived.Test.YtcjmpdpgfmjcgaaGreatDoorMG2
import Derived.Test.YtcjmpdpgfmjcgaaGreatDoorMG11
import Derived.Test.YtcjmpdpgfmjcgaaGreatDoorMG10
namespace Go.Dw
open Go Go.Dx Go.Proofs Go.Mt
set_option maxRecDepth 100000
structure TK where
 h0:Heap
 t:Task
 am:Option Addr
 ar:Option Addr
 cm:Nat
 cr:Nat
 bb:Nat
 c1:Nat
 c2:Nat
 c3:Nat
 c4:Nat
 bt:Nat
 bs:Nat
 gb:FuncId
 fb:List Value
 cb:List Value
 bar:Pl->Bool
abbrev ptr (b:Nat):Value:=.pointer (some ⟨b,0,none⟩)
def TK.adj (k:TK):Nat->Pl->Prop:=fun r p=>p∈placesL k.t (r:Nat)/\k.bar p=false
structure TK.At (k:TK)(h:Heap):Prop where
 ext:Ext k.h0 h
 g1:h.get k.c1=some (.cells [ptr k.bb] 113 false)
 g2:h.get k.c2=some (.cells [.map (some k.bs)] 112 false)
 g3:h.get k.c3=some (.cells [.func (.func k.gb) ⟨k.fb⟩ ⟨k.cb⟩] 108 false)
 g4:h.get k.c4=some (.cells [.func (.func 141) ⟨[]⟩ ⟨[ptr k.c1,ptr k.c2,ptr k.c3,ptr k.c4]⟩] 100 false)
 gb:h.get k.bb=some (.cells (benchC k.t k.am k.ar k.cm k.cr (.map (some k.bt))) 116 false)
theorem TK.At.ck {k:TK}{h h':Heap}(a:k.At h)(hk:CK h h')(he:Ext k.h0 h'):k.At h':=⟨he,hk _ _ _ _ a.g1,hk _ _ _ _ a.g2,hk _ _ _ _ a.g3,hk _ _ _ _ a.g4,hk _ _ _ _ a.gb⟩
theorem TK.At.grow {k:TK}{h h':Heap}(a:k.At h)(he:Ext h h'):k.At h':=a.ck (CK.of he) (a.ext.trans he)
structure TK.OK (k:TK):Prop where
 hw:WF k.h0
 hM:RowsAt 2 MachAt k.h0 k.am k.t.machines
 hR:RowsAt 5 ReelAt k.h0 k.ar k.t.reels
 hf:k.t.Fit
 hV:Valid k.t
 bd:bodied Tryz.prog k.gb=true
 bar:∀h1,Ext k.h0 h1->∀p,Sv Tryz.prog k.gb (k.fb++([plV p]++k.cb)) h1 (RetP fun v h2=>v=.bool (k.bar p)/\Ext h1 h2)
 ne:k.bt≠k.bs
 n1:k.h0.nx<=k.bt
 n2:k.h0.nx<=k.bs
def TakenIs (h:Heap)(bt:Nat)(T:Pl->Option Nat):Prop:=∃lt,MapB placeK h bt lt/\∀p,lkp p lt=(T p).map fun r=>i64 (r:Nat)
def SeenIs (h:Heap)(bs:Nat)(S:List Pl):Prop:=∃ls,MapB placeK h bs ls/\∀p,lkp p ls=if p∈S then some (.bool true) else none
theorem TakenIs.some' {h h':Heap}{b:Nat}{T:Pl->Option Nat}(a:TakenIs h b T)(he:∀o,h.get b=some o->h'.get b=some o):TakenIs h' b T:=by
 obtain⟨l,h1,h2⟩:=a;exact⟨l,MapB.some placeK h1 he,h2⟩
theorem SeenIs.some' {h h':Heap}{b:Nat}{S:List Pl}(a:SeenIs h b S)(he:∀o,h.get b=some o->h'.get b=some o):SeenIs h' b S:=by
 obtain⟨l,h1,h2⟩:=a;exact⟨l,MapB.some placeK h1 he,h2⟩
theorem TakenIs.ext {h h':Heap}{b:Nat}{T:Pl->Option Nat}(a:TakenIs h b T)(he:Ext h h'):TakenIs h' b T:=a.some' fun _=>he.get
theorem SeenIs.ext {h h':Heap}{b:Nat}{S:List Pl}(a:SeenIs h b S)(he:Ext h h'):SeenIs h' b S:=a.some' fun _=>he.get
theorem TakenIs.ne {h:Heap}{b c:Nat}{T:Pl->Option Nat}(a:TakenIs h b T){vs:List Value}{el:TypeId}{op:Bool}(hg:h.get c=some (.cells vs el op)):c≠b:=by
 obtain⟨l,h1,_⟩:=a;exact mapB_ne h1 hg
theorem SeenIs.ne {h:Heap}{b c:Nat}{S:List Pl}(a:SeenIs h b S){vs:List Value}{el:TypeId}{op:Bool}(hg:h.get c=some (.cells vs el op)):c≠b:=by
 obtain⟨l,h1,_⟩:=a;exact mapB_ne h1 hg
theorem TakenIs.lt {h:Heap}{b:Nat}{T:Pl->Option Nat}(a:TakenIs h b T)(hw:WF h):b<h.nx:=by
 obtain⟨l,h1,_⟩:=a;exact h1.lt placeK hw
theorem SeenIs.lt {h:Heap}{b:Nat}{S:List Pl}(a:SeenIs h b S)(hw:WF h):b<h.nx:=by
 obtain⟨l,h1,_⟩:=a;exact h1.lt placeK hw
theorem TakenIs.mp {h:Heap}{b:Nat}{T:Pl->Option Nat}(a:TakenIs h b T):∃es c,h.get b=some (.map es c):=by
 obtain⟨l,⟨es,c,h1,_⟩,_⟩:=a;exact⟨es,c,h1⟩
theorem SeenIs.mp {h:Heap}{b:Nat}{S:List Pl}(a:SeenIs h b S):∃es c,h.get b=some (.map es c):=by
 obtain⟨l,⟨es,c,h1,_⟩,_⟩:=a;exact⟨es,c,h1⟩
def unseen (t:Task)(S:List Pl):Nat:=(((List.range t.reels.length).flatMap fun (r:Nat)=>placesL t (r:Nat)).filter fun p=>decide (p ∉ S)).length
theorem unseen_lt {t:Task}{r:Nat}{p:Pl}{S S1:List Pl}(hr:r<t.reels.length)(hp:p∈placesL t (r:Nat))(hn:p ∉ S1)(hs:∀q∈S,q∈S1):unseen t (S1++[p])<unseen t S:=by
 unfold unseen
 refine Go.Mt.filter_lt (fun q _ hq=>?_) ⟨p,List.mem_flatMap.2 ⟨r,List.mem_range.2 hr,hp⟩,?_,?_⟩
 ·have:=of_decide_eq_true hq
  exact decide_eq_true fun h=>this (List.mem_append_left _ (hs q h))
 ·exact decide_eq_true fun h=>hn (hs p h)
 ·exact decide_eq_false fun h=>h (List.mem_append_right _ List.mem_cons_self)
def TryPost (k:TK)(S:List Pl)(T:Pl->Option Nat)(r:Nat)(h:Heap)(v:Value)(h':Heap):Prop :=
 ∃S' T',Exb (fun b=>b=k.bt\/b=k.bs) h h'/\TakenIs h' k.bt T'/\SeenIs h' k.bs S'/\S'.Nodup/\(∀q∈S,q∈S')/\(∀p s,T' p=some s->s<k.t.reels.length) ∧
  ((v=.bool true/\Won k.adj S T T' r)\/(v=.bool false/\T'=T/\Lost k.adj S S' T r))
theorem nodup_snoc {S:List Pl}{p:Pl}(h:S.Nodup)(hp:p ∉ S):(S++[p]).Nodup:=by
 rw[List.nodup_append]
 refine⟨h,by simp,fun a ha b hb=>?_⟩
 rw[List.mem_singleton.1 hb]
 exact fun e=>hp (by rw[<-e];exact ha)
theorem CK.exb {S:Nat->Prop}{h h':Heap}(hX:Exb S h h')(hS:∀b,S b->∀vs el op,h.get b≠some (.cells vs el op)):CK h h':=fun b vs el op hg=>hX.get (fun hs=>hS b hs _ _ _ hg) hg
set_option maxHeartbeats 8000000 in
theorem try_sv (k:TK)(hk:k.OK):∀(n:Nat)(h:Heap)(S:List Pl)(T:Pl->Option Nat)(r:Nat),unseen k.t S=n->k.At h->TakenIs h k.bt T->SeenIs h k.bs S->S.Nodup->r<k.t.reels.length->(∀p s,T p=some s->s<k.t.reels.length) →
  Sv Tryz.prog 141 [i64 (r:Nat),ptr k.c1,ptr k.c2,ptr k.c3,ptr k.c4] h (RetP fun v h'=>TryPost k S T r h v h'):=by
 obtain⟨hw0,hM,hR,hf,hV,hbd,hbar,hne,hn1,hn2⟩:=hk
 intro n
 induction n using Nat.strongRecOn with
 | ind n ih =>
 intro h S T r hun hA hT hS hSd hr hTr
 refine Sv_wf fun hw=>?_
 refine Sv_enter Tryz.func141 rfl (by rw[Tryz.ntmps141];rfl) ?_;show Wc Tryz.prog ⟨141,46,none⟩ _ _ _ _ _
 refine zz ?_
 refine Wo_box rfl rfl rfl fun h1 hE1 hW1 hgr hx1=>?_
 refine Wo_alloc rfl rfl Zr.h fun h2 hE2 hW2 hg6 hx2=>?_
 replace hgr:=hE2.get hgr
 have hE:=hE1.trans hE2
 have hb6:h.nx<=h1.nx:=by omega
 clear hE1 hE2 hW1 hx1 hx2
 generalize hb5d:h.nx=b5 at *
 have hb5:h.nx<=b5:=by omega
 generalize h1.nx=b6 at *
 replace hb6:h.nx<=b6:=by omega
 clear h1
 have hA2:=hA.grow hE
 have hg1:=hA2.g1
 refine zz ?_
 refine Wo_callr rfl rfl rfl rfl rfl Bod.h rfl rfl (places_sv) ?_
 rintro v h3 ⟨p1,p2,rfl,hE3,gp1,gp2,_,_,_,_⟩
 replace hgr:=hE3.get hgr
 replace hg6:=hE3.get hg6
 replace hE:=hE.trans hE3
 have hA3:=hA.grow hE
 have hT3:=hT.ext hE
 have hS3:=hS.ext hE
 refine Wo_wf fun hw3=>?_
 clear hE3 hA2 hg1 hW2
 refine zz ?_
 refine Wc_rangeL rfl rfl Bod.h (fun e hs hL hEL hWL hnL hLr hLl=>?_)
 have hbt3:=hT3.lt hw3
 have hbs3:=hS3.lt hw3
 have hb63:=hw3 _ _ hg6
 have hb53:=hw3 _ _ hgr
 let S0:Nat->Prop:=fun b=>b=k.bt\/b=k.bs\/b=h3.nx+1
 let S6:Nat->Prop:=fun b=>S0 b\/b=b6
 have hSn:∀{b vs el op},h3.get b=some (.cells vs el op)->¬S0 b:=fun {b vs el op} hg hs=>by
  rcases hs with e|e|e
  ·exact hT3.ne hg e
  ·exact hS3.ne hg e
  ·have:=hw3 _ _ hg;omega
 have hSh:∀b,S0 b->k.h0.nx<=b:=fun b hb=>by
  have:=hA3.ext.2.1
  rcases hb with e|e|e <;> omega
 have hCK:∀{h'},Exb S0 hL h'->CK h3 h':=fun {h'} hX b vs el op hg=>hX.get (hSn hg) (hEL.get hg)
 have hAX:∀{h'},Exb S0 hL h'->k.At h':=fun {h'} hX=>hA3.ck (hCK hX) (hX.ext (hA3.ext.trans hEL) hw0 hSh)
 let J:List Pl->Heap->Prop:=fun pre h'=>Exb S0 hL h'/\h'.get (h3.nx+1)=hL.get (h3.nx+1)/\TakenIs h' k.bt T/\∃S1,SeenIs h' k.bs S1/\S1.Nodup/\(∀q∈S,q∈S1)/\Vain k.adj S S1 T/\∀q∈pre,k.bar q=false->q∈S1
 let K:Heap->Prop:=fun h'=>Exb S6 hL h'/\(∃fn nt e ps ag bd df,h'.get (h3.nx+1)=some (.loop .done (some .ret) fn nt e ps ag bd df))/\h'.get b6=some (.cells [.bool true] 4 false)/\∃S' T',TakenIs h' k.bt T'/\SeenIs h' k.bs S'/\S'.Nodup/\(∀q∈S,q∈S')/\(∀p s,T' p=some s->s<k.t.reels.length)/\Won k.adj S T T' r
 refine (iter_sv (h0:=k.h0) (l:=h3.nx+1) (cm:=k.cm) (cr:=k.cr) (mp:=.map (some k.bt)) (bb:=k.bb) hM hR hf hV hr J K S0 (fun b hb=>by rcases hb with e|e|e <;> omega) ⟨Exb.refl _ _,rfl,hT3.ext hEL,S,hS3.ext hEL,hSd,(fun _ h=>h),vain_refl,(fun _ h=>nomatch h)⟩ (fun pre h' hJ=>?_) (fun pre h1 h2 hJ he=>?_) (fun pre p post h4 hsp hJ=>?_)).ret ?_
 ·exact⟨(hAX hJ.1).ext,hCK hJ.1 _ _ _ _ gp1,hCK hJ.1 _ _ _ _ gp2,(hAX hJ.1).gb⟩
 ·obtain⟨hX,hl,hT',S1,hS',hq⟩:=hJ
  exact⟨hX.trans (Exb.of he),(he.get (hl.trans hLl)).trans hLl.symm,hT'.ext he,S1,hS'.ext he,hq⟩
 ·obtain⟨hX,hl4,hT4,S1,hS4,hSd1,hsub,hvain,hcov⟩:=hJ
  have hp:p∈placesL k.t (r:Nat):=by rw[hsp];simp
  have hA4:=hAX hX
  have hgr4:=hCK hX _ _ _ _ hgr
  have hg64:=hCK hX _ _ _ _ hg6
  have hbtl:k.bt≠h3.nx+1:=by omega
  have hbsl:k.bs≠h3.nx+1:=by omega
  have hb6l:b6≠h3.nx+1:=by omega
  have finJ:∀h',Exb S0 h4 h'->TakenIs h' k.bt T->∀S2,SeenIs h' k.bs S2->S2.Nodup->(∀q∈S,q∈S2)->Vain k.adj S S2 T->(∀q∈pre++[p],k.bar q=false->q∈S2)->∀o,hL.get (h3.nx+1)=some o->J (pre++[p]) (h'.set (h3.nx+1) o)/\Exb S0 h4 (h'.set (h3.nx+1) o):=fun h' hX' hT' S2 hS' hd hsb hv hc o ho =>
   ⟨⟨(hX.trans hX').set _ (.inr (.inr rfl)),(Heap.get_set_self _ _ _).trans ho.symm,hT'.some' fun o ho=>(Heap.get_set_other _ hbtl).trans ho,S2,hS'.some' fun o ho=>(Heap.get_set_other _ hbsl).trans ho,hd,hsb,hv,hc⟩,hX'.set _ (.inr (.inr rfl))⟩
  have finK:∀h' T',Exb S6 h4 h'->TakenIs h' k.bt T'->∀S2,SeenIs h' k.bs S2->S2.Nodup->(∀q∈S,q∈S2)->(∀p s,T' p=some s->s<k.t.reels.length)->Won k.adj S T T' r->h'.get b6=some (.cells [.bool true] 4 false)->∀fn nt e ps ag bd df,K (h'.set (h3.nx+1) (.loop .done (some .ret) fn nt e ps ag bd df)):=fun h' T' hX' hT' S2 hS' hd hsb hr' hw' hg' fn nt e ps ag bd df =>
   ⟨((hX.mono fun _ hb=>.inl hb).trans hX').set _ (.inl (.inr (.inr rfl))),⟨fn,nt,e,ps,ag,bd,df,Heap.get_set_self _ _ _⟩,(Heap.get_set_other _ hb6l).trans hg',S2,T',hT'.some' fun o ho=>(Heap.get_set_other _ hbtl).trans ho,hS'.some' fun o ho=>(Heap.get_set_other _ hbsl).trans ho,hd,hsb,hr',hw'⟩
  refine Yd_intro (hl4.trans hLl) hs rfl rfl ?_
  refine Wc_wf fun hw4=>?_
  refine Wc_region ?_
  refine Wo_allocStore rfl rfl Zr.h Tsz.h rfl (fun _=>rfl) rfl rfl rfl fun h5 hE5 hW5 hg7 hx5=>?_
  have hl5:=hE5.get (hl4.trans hLl)
  refine Wo_nil ⟨rfl,rfl,_,_,_,_,_,_,_,_,hl5,?_⟩
  replace hgr4:=hE5.get hgr4
  replace hg64:=hE5.get hg64
  replace hA4:=hA4.grow hE5
  replace hT4:=hT4.ext hE5
  replace hS4:=hS4.ext hE5
  have hX4:Exb S0 h4 h5:=Exb.of hE5
  generalize hb7:h4.nx=b7 at *
  generalize hAO:AO.loop LoopState.busy _ _ _ _ _ _ _ _=bo
  have hU6:=Upd.mk' h5 (h3.nx+1) bo
  generalize h5.set (h3.nx+1) bo=h6 at *
  have hl6:=hU6.at'
  have hgl5:∀{b vs el op},h5.get b=some (.cells vs el op)->b≠h3.nx+1:=fun {b vs el op} hg e=>by rw[e,hl5] at hg;cases hg
  replace hgr4:=hU6.get (hgl5 hgr4) hgr4
  replace hg64:=hU6.get (hgl5 hg64) hg64
  replace hg7:=hU6.get (hgl5 hg7) hg7
  replace hA4:=hA4.ck (fun b vs el op hg=>hU6.get (hgl5 hg) hg) (hU6.ext hA4.ext hw0 (hSh _ (.inr (.inr rfl))))
  replace hT4:=hT4.some' fun o ho=>(hU6.other _ hbtl).trans ho
  replace hS4:=hS4.some' fun o ho=>(hU6.other _ hbsl).trans ho
  replace hX4:=hX4.upd hU6 (.inr (.inr rfl))
  clear hgl5 hU6 hl5 hE5 hW5 hx5 h5
  have ha1:=hA4.g1
  have ha2:=hA4.g2
  have ha3:=hA4.g3
  have ha4:=hA4.g4
  have hab:=hA4.gb
  refine Wc_block ?_
  refine zz ?_
  have hS4':=hS4
  obtain⟨ls,hms,hks⟩:=hS4
  by_cases hin:p∈S1
  ·refine Wo_do rfl rfl rfl rfl (A_lookupV placeK (k:=p) (v:=.bool true) Und.h Zr.h rfl hms rfl (by rw[hks,if_pos hin];rfl)) ?_
   refine zz ?_
   subst hAO
   refine⟨none,.busy,none,141,46,e,_,_,_,_,rfl,hl6,.inl ⟨rfl,finJ _ hX4 hT4 S1 hS4' hSd1 hsub hvain (fun q hq hb=>?_) _ hLl⟩⟩
   rcases List.mem_append.1 hq with g|g
   ·exact hcov q g hb
   ·rw[List.mem_singleton.1 g];exact hin
  refine Wo_do rfl rfl rfl rfl (A_lookupV placeK (k:=p) (v:=.bool false) Und.h Zr.h rfl hms rfl (by rw[hks,if_neg hin];rfl)) ?_
  refine zz ?_
  refine Wo_callr rfl rfl rfl rfl rfl hbd rfl rfl (hbar _ hA4.ext p) ?_
  rintro v h7 ⟨rfl,hE7⟩
  replace hgr4:=hE7.get hgr4
  replace hg64:=hE7.get hg64
  replace hg7:=hE7.get hg7
  replace hl6:=hE7.get hl6
  replace hA4:=hA4.grow hE7
  replace hT4:=hT4.ext hE7
  replace hS4':=hS4'.ext hE7
  replace hX4:=hX4.trans (Exb.of hE7)
  clear hms hks ha1 ha2 ha3 ha4 hab
  clear hE7 h6
  cases hbp:k.bar p
  rotate_left
  ·refine zz ?_
   subst hAO
   refine⟨none,.busy,none,141,46,e,_,_,_,_,rfl,hl6,.inl ⟨rfl,finJ _ hX4 hT4 S1 hS4' hSd1 hsub hvain (fun q hq hb=>?_) _ hLl⟩⟩
   rcases List.mem_append.1 hq with g|g
   ·exact hcov q g hb
   ·rw[List.mem_singleton.1 g,hbp] at hb;cases hb
  have hadj:k.adj r p:=⟨hp,hbp⟩
  obtain⟨ls,hms,hks⟩:=hS4'
  have ha2:=hA4.g2
  refine zz ?_
  refine Wo_mapUpdateB placeK (k:=p) rfl Und.h rfl hms rfl rfl fun h8 o8 hU8 hm8=>?_
  have hS8:SeenIs h8 k.bs (S1++[p]):=⟨_,hm8,fun q=>by
   rw[lkp_setK,hks]
   by_cases e:q=p
   ·rw[if_pos e,if_pos (by rw[e];simp)]
   ·rw[if_neg e];simp only[List.mem_append,List.mem_singleton,e,or_false]⟩
  have hgs:∀{b vs el op},h7.get b=some (.cells vs el op)->b≠k.bs:=fun {b vs el op} hg=>mapB_ne hms hg
  replace hA4:=hA4.ck (fun b vs el op hg=>hU8.get (hgs hg) hg) (hU8.ext hA4.ext hw0 hn2)
  replace hgr4:=hU8.get (hgs hgr4) hgr4
  replace hg64:=hU8.get (hgs hg64) hg64
  replace hg7:=hU8.get (hgs hg7) hg7
  replace hl6:=hU8.get (Ne.symm hbsl) hl6
  replace hT4:=hT4.some' fun o ho=>(hU8.other _ hne).trans ho
  replace hX4:=hX4.upd hU8 (.inr (.inl rfl))
  clear hgs hU8 hm8 ha2
  clear hms hks h7
  have hlt:unseen k.t (S1++[p])<n:=by rw[<-hun];exact unseen_lt hr hp hin hsub
  have hsnoc:=nodup_snoc hSd1 hin
  have ha1:=hA4.g1
  have ha4:=hA4.g4
  have hab:=hA4.gb
  have hT40:=hT4
  have hg640:=hg64
  cases hTp:T p with
  | none =>
   obtain⟨lt,hmt,hkt⟩:=hT4
   have hk0:lkp p lt=none:=by rw[hkt,hTp];rfl
   refine zz ?_
   refine Wc_draw hmix [0,1,3,7,0,31,63,127,127,255,1023] [0,1,2,3,4,5,6,7,8] (some 9) [([],(some 10)),([],none)] (by kernel_rfl) (by kernel_rfl) ?_
   refine z_l ?_;refine z_q ?_;refine z_f ?_;refine z_l ?_;refine z_r ?_;refine Wp_pure rfl rfl rfl rfl rfl (fun _=>A_lookupOkV placeK (k:=p) (v:=i64 0) (q:=false) Und.h Zr.h rfl hmt rfl (by rw[hk0];rfl) (by rw[hk0];rfl)) ?_;refine z_m ?_;refine z_e ?_;refine z_e ?_
   refine Wp_eff [0,1,2,3,4,5,6,7] (by kernel_rfl) rfl (Stl_nil rfl) rfl nb rfl (W1_op rfl rfl (A_assign rfl) ?_)
   refine Wp_eff [0,1,2,3,4,5,6,7,8,9] (by kernel_rfl) rfl (by refine t_e 8 ?_;exact Stl_nil rfl) rfl nb rfl (W1_op rfl rfl (A_assign rfl) ?_)
   refine Wp_end (Stl_nil rfl) nb' ?_
   refine zz ?_
   refine Wc_draw hmix [0,1,3,7,0,0,63] [0,1,2,3,4,5] (some 6) [([],none)] (by kernel_rfl) (by kernel_rfl) ?_
   refine z_l ?_;refine z_q ?_;refine z_f ?_;refine z_l ?_;refine z_r ?_;refine z_l ?_
   refine Wp_eff [0,1,2,3,4,5] (by kernel_rfl) rfl (Stl_nil rfl) rfl nb rfl (W1_mapUpdateB placeK (k:=p) rfl rfl Und.h rfl hmt rfl rfl (fun h9 o9 hU9 hm9=>?_))
   refine Wp_end (Stl_nil rfl) nb' ?_
   have hT9:TakenIs h9 k.bt (setT T p r):=⟨_,hm9,fun q=>by
    rw[lkp_setK,hkt,setT]
    by_cases e:q=p
    ·rw[if_pos e,if_pos e];rfl
    ·rw[if_neg e,if_neg e]⟩
   have hgt:∀{b vs el op},h8.get b=some (.cells vs el op)->b≠k.bt:=fun {b vs el op} hg=>mapB_ne hmt hg
   replace hg64:=hU9.get (hgt hg64) hg64
   replace hl6:=hU9.get (Ne.symm hbtl) hl6
   have hS9:=hS8.some' fun o ho=>(hU9.other _ (Ne.symm hne)).trans ho
   replace hX4:=hX4.upd hU9 (.inl rfl)
   refine zz ?_
   refine Wo_store rfl Tsz.h rfl rfl hg64 rfl rfl rfl fun h10 hU10=>?_
   refine zz ?_
   have hb6t:k.bt≠b6:=Ne.symm (hgt hg640)
   have hb6s:k.bs≠b6:=Ne.symm (hS8.ne hg640)
   replace hl6:=hU10.get (Ne.symm hb6l) hl6
   subst hAO
   refine Wc_ret ⟨some .ret,.busy,none,141,46,e,_,_,_,_,rfl,hl6,.inr ⟨rfl,finK _ (setT T p r) ((hX4.mono fun _ hb=>.inl hb).upd hU10 (.inr rfl)) (hT9.some' fun o ho=>(hU10.other _ hb6t).trans ho) (S1++[p]) (hS9.some' fun o ho=>(hU10.other _ hb6s).trans ho) hsnoc (fun q hq=>List.mem_append_left _ (hsub q hq)) (fun q x hq=>?_) ((won_free hadj hin hTp).anti hsub) hU10.at' _ _ _ _ _ _ _⟩⟩
   rw[setT] at hq
   split at hq
   ·cases hq;exact hr
   ·exact hTr q x hq
  | some s =>
   obtain⟨lt,hmt,hkt⟩:=hT4
   have hk0:lkp p lt=some (i64 (s:Nat)):=by rw[hkt,hTp];rfl
   refine zz ?_
   refine Wc_draw hmix [0,1,3,7,0,31,63,127,127,255,1023] [0,1,2,3,4,5,6,7,8] (some 9) [([],(some 10)),([],none)] (by kernel_rfl) (by kernel_rfl) ?_
   refine z_l ?_;refine z_q ?_;refine z_f ?_;refine z_l ?_;refine z_r ?_;refine Wp_pure rfl rfl rfl rfl rfl (fun _=>A_lookupOkV placeK (k:=p) (v:=i64 (s:Nat)) (q:=true) Und.h Zr.h rfl hmt rfl (by rw[hk0];rfl) (by rw[hk0];rfl)) ?_;refine z_m ?_;refine z_e ?_;refine z_e ?_
   refine Wp_eff [0,1,2,3,4,5,6,7] (by kernel_rfl) rfl (Stl_nil rfl) rfl nb rfl (W1_op rfl rfl (A_assign rfl) ?_)
   refine Wp_eff [0,1,2,3,4,5,6,7,8,9] (by kernel_rfl) rfl (by refine t_e 8 ?_;exact Stl_nil rfl) rfl nb rfl (W1_op rfl rfl (A_assign rfl) ?_)
   refine Wp_end (Stl_nil rfl) nb' ?_
   refine zz ?_
   refine Wo_callr rfl rfl rfl rfl rfl Bod.h rfl rfl (ih _ hlt h8 (S1++[p]) T s rfl hA4 hT40 hS8 hsnoc (hTr _ _ hTp) hTr) ?_
   rintro v h9 ⟨S3,T',hX9,hT9,hS9,hSd3,hsub3,hr9,hcase⟩
   clear hmt hkt hk0
   have hCK9:CK h8 h9:=CK.exb hX9 fun b hb vs el op hg=>by
    rcases hb with e|e
    ·exact hT40.ne hg e
    ·exact hS8.ne hg e
   have hl9:=hX9.get (b:=h3.nx+1) (fun hb=>hb.elim (fun e=>hbtl e.symm) (fun e=>hbsl e.symm)) hl6
   replace hgr4:=hCK9 _ _ _ _ hgr4
   replace hg64:=hCK9 _ _ _ _ hg64
   replace hg640:=hg64
   replace hg7:=hCK9 _ _ _ _ hg7
   replace ha1:=hCK9 _ _ _ _ ha1
   replace hab:=hCK9 _ _ _ _ hab
   replace hX4:=hX4.trans (hX9.mono (S':=S0) fun b hb=>hb.elim (fun e=>.inl e) (fun e=>.inr (.inl e)))
   rcases hcase with ⟨rfl,hwon⟩|⟨rfl,rfl,hlost⟩
   ·obtain⟨lt,hmt,hkt⟩:=hT9
    replace hl6:=hl9
    clear hl9 hCK9 hX9 ha4 hS8 hT40
    refine zz ?_
    refine Wc_draw hmix [0,1,3,7,0,0,63] [0,1,2,3,4,5] (some 6) [([],none)] (by kernel_rfl) (by kernel_rfl) ?_
    refine z_l ?_;refine z_q ?_;refine z_f ?_;refine z_l ?_;refine z_r ?_;refine z_l ?_
    refine Wp_eff [0,1,2,3,4,5] (by kernel_rfl) rfl (Stl_nil rfl) rfl nb rfl (W1_mapUpdateB placeK (k:=p) rfl rfl Und.h rfl hmt rfl rfl (fun h11 o11 hU9 hm9=>?_))
    refine Wp_end (Stl_nil rfl) nb' ?_
    have hT10:TakenIs h11 k.bt (setT T' p r):=⟨_,hm9,fun q=>by
     rw[lkp_setK,hkt,setT]
     by_cases e:q=p
     ·rw[if_pos e,if_pos e];rfl
     ·rw[if_neg e,if_neg e]⟩
    have hgt:∀{b vs el op},h9.get b=some (.cells vs el op)->b≠k.bt:=fun {b vs el op} hg=>mapB_ne hmt hg
    replace hg64:=hU9.get (hgt hg64) hg64
    replace hl6:=hU9.get (Ne.symm hbtl) hl6
    have hS10:=hS9.some' fun o ho=>(hU9.other _ (Ne.symm hne)).trans ho
    replace hX4:=hX4.upd hU9 (.inl rfl)
    refine zz ?_
    refine Wo_store rfl Tsz.h rfl rfl hg64 rfl rfl rfl fun h10 hU10=>?_
    refine zz ?_
    have hb6t:k.bt≠b6:=Ne.symm (hgt hg640)
    have hb6s:k.bs≠b6:=Ne.symm (hS9.ne hg640)
    replace hl6:=hU10.get (Ne.symm hb6l) hl6
    subst hAO
    refine Wc_ret ⟨some .ret,.busy,none,141,46,e,_,_,_,_,rfl,hl6,.inr ⟨rfl,finK _ (setT T' p r) ((hX4.mono fun _ hb=>.inl hb).upd hU10 (.inr rfl)) (hT10.some' fun o ho=>(hU10.other _ hb6t).trans ho) S3 (hS10.some' fun o ho=>(hU10.other _ hb6s).trans ho) hSd3 (fun q hq=>hsub3 q (List.mem_append_left _ (hsub q hq))) (fun q x hq=>?_) ((won_move hadj hin hTp hwon).anti hsub) hU10.at' _ _ _ _ _ _ _⟩⟩
    rw[setT] at hq
    split at hq
    ·cases hq;exact hr
    ·exact hr9 q x hq
   ·refine zz ?_
    subst hAO
    refine⟨none,.busy,none,141,46,e,_,_,_,_,rfl,hl9,.inl ⟨rfl,finJ _ hX4 hT9 S3 hS9 hSd3 (fun q hq=>hsub3 q (List.mem_append_left _ (hsub q hq))) (vain_step hvain hTp hsub3 hlost) (fun q hq hb=>?_) _ hLl⟩⟩
    rcases List.mem_append.1 hq with g|g
    ·exact hsub3 q (List.mem_append_left _ (hcov q g hb))
    ·exact hsub3 q (List.mem_append_right _ g)
 ·have hb6S:¬S0 b6:=hSn hg6
  have hr6:h3.nx≠b6:=by omega
  have hdel:∀{h'} {b:Nat} {o:AO},b<h3.nx->h'.get b=some o->(delL h' [h3.nx]).get b=some o:=fun {h' b o} hb hg=>by
   rw[delL_get (by simp;omega)];exact hg
  have hfin:∀h' o,Exb S6 hL h'->Exb (fun b=>b=k.bt\/b=k.bs) h (delL (h'.set (h3.nx+1) o) [h3.nx]):=fun h' o hX=>by
   have h1:=hE.2.1
   refine Exb.delL (Exb.new ((Exb.of (hE.trans hEL)).trans ((hX.set o (.inl (.inr (.inr rfl)))).mono (fun b hb=>?_))) hw) hw (fun r hr=>?_)
   ·rcases hb with (e|e|e)|e
    ·exact .inl (.inl e)
    ·exact .inl (.inr e)
    ·exact .inr (by omega)
    ·exact .inr (by omega)
   ·rw[List.mem_singleton.1 hr];exact h1
  have hdk:∀{h' o},Exb S6 hL h'->(h'.set (h3.nx+1) o).get h3.nx=some .defd:=fun {h' o} hX=>by
   rw[Heap.get_set_other _ (by omega)]
   refine hX.get (fun hs=>?_) hLr
   rcases hs with (e|e|e)|e <;> omega
  rintro v h' (⟨hX,hl',hT',S1,hS',hSd',hsub,hvain,hcov⟩|⟨hX,⟨fn,nt,e',ps,ag,bd,df,hl'⟩,hg6',S',T',hT',hS',hSd',hsub,hr',hwon⟩)
  ·have hg6':h'.get b6=some (.cells [.bool false] 4 false):=hX.get hb6S (hEL.get hg6)
   have hX6:Exb S6 hL h':=hX.mono fun _ hb=>.inl hb
   refine⟨.ready,none,141,46,e,_,_,_,_,hl'.trans hLl,by simp,fun _=>?_,fun c hc=>nomatch hc⟩
   generalize hAO:AO.loop LoopState.exhausted _ _ _ _ _ _ _ _=bo
   have hq:=hfin h' bo hX6
   have hq2:=hdk (o:=bo) hX6
   have hU7:=Upd.mk' h' (h3.nx+1) bo
   have hg7:=hU7.get (c:=b6) (by omega) hg6'
   generalize h'.set (h3.nx+1) bo=h7 at *
   show Wc _ _ _ _ _ _ _
   refine zz ?_
   refine Wo_store rfl Tsz.h rfl rfl hg7 rfl rfl rfl fun h8 hU8=>?_
   refine zz ?_
   have hq8:Exb (fun b=>b=k.bt\/b=k.bs) h (delL h8 [h3.nx]):=by
    have h1:=hE.2.1
    refine Exb.delL (Exb.new (Exb.upd (Exb.mono (S':=fun b=>(b=k.bt\/b=k.bs)\/h.nx<=b) (Exb.trans (Exb.of (hE.trans hEL)) (Exb.mono (hX6.upd hU7 (.inl (.inr (.inr rfl)))) (S':=fun b=>(b=k.bt\/b=k.bs)\/h.nx<=b) (fun b hb=>?_))) (fun _ h=>h)) hU8 (.inr hb6)) hw) hw (fun r hr=>?_)
    ·rcases hb with (e|e|e)|e
     ·exact .inl (.inl e)
     ·exact .inl (.inr e)
     ·exact .inr (by omega)
     ·exact .inr (by omega)
    ·rw[List.mem_singleton.1 hr];exact h1
   have hb6t:k.bt≠b6:=Ne.symm (hT'.ne hg6')
   have hb6s:k.bs≠b6:=Ne.symm (hS'.ne hg6')
   refine Wc_ret (Lv_retC (rs:=[h3.nx]) (by simp) (fun x hx=>?_) (resk_cell rfl (aload_cell OneC.h (cellAt_cells (hdel hb63 hU8.at') rfl)) rfl) ⟨S1,T,hq8,hT'.some' fun o ho=>hdel hbt3 ((hU8.other _ hb6t).trans ((hU7.other _ (by omega)).trans ho)),hS'.some' fun o ho=>hdel hbs3 ((hU8.other _ hb6s).trans ((hU7.other _ (by omega)).trans ho)),hSd',hsub,hTr,.inr ⟨rfl,rfl,fun q hq=>hcov q hq.1 hq.2,hvain⟩⟩)
   rw[List.mem_singleton.1 hx]
   exact hU8.get hr6 hq2
  ·refine⟨.done,some .ret,fn,nt,e',ps,ag,bd,df,hl',by simp,(fun hc=>nomatch hc),fun c hc=>?_⟩
   cases hc
   generalize hAO:AO.loop LoopState.exhausted _ _ _ _ _ _ _ _=bo
   have hq:=hfin h' bo hX
   have hq2:=hdk (o:=bo) hX
   have hU7:=Upd.mk' h' (h3.nx+1) bo
   have hg7:=hU7.get (c:=b6) (by omega) hg6'
   generalize h'.set (h3.nx+1) bo=h7 at *
   refine Wc_ret (Lv_retC (rs:=[h3.nx]) (by simp) (fun x hx=>?_) (resk_cell rfl (aload_cell OneC.h (cellAt_cells (hdel hb63 hg7) rfl)) rfl) ⟨S',T',hq,hT'.some' fun o ho=>hdel hbt3 ((hU7.other _ (by omega)).trans ho),hS'.some' fun o ho=>hdel hbs3 ((hU7.other _ (by omega)).trans ho),hSd',hsub,hr',.inl ⟨rfl,hwon⟩⟩)
   rw[List.mem_singleton.1 hx]
   exact hq2
end Go.Dw
/- Q2: contracts: reels that fit (rescue.put, rescue.fits). -/
namespace Go.Dw
open Go Go.Dx Go.Proofs Go.Mt
set_option maxRecDepth 100000
abbrev adjB (t:Task)(bar:Pl->Bool):Nat->Pl->Prop:=fun r p=>p∈placesL t (r:Nat)/\bar p=false
theorem indexFuncM_sv {a:Option Addr}{cap:Nat}{l:List Int}{h:Heap}{g:FuncId}{first capv:List Value}(I:Nat->Heap->Prop)(K:Heap->Prop)(hI0:I 0 h)(hS:∀i h',I i h'->IntsAt h' a l)(hbd:bodied Tryz.prog g=true)
  (hp:∀i (hi:i<l.length) h',I i h'->Sv Tryz.prog g (first++([i64 l[i]]++capv)) h' (RetP fun v h2=>(v=.bool false/\I (i+1) h2)\/(v=.bool true/\K h2))) (hlen:l.length<9223372036854775808) :
  Sv Tryz.prog 93 [.slice a l.length cap,.func (.func g) ⟨first⟩ ⟨capv⟩] h (RetP fun v h'=>(v=i64 (-1)/\I l.length h')\/(∃i:Nat,v=i64 i/\K h')):=by
 refine Sv_enter Tryz.func93 rfl (by rw[Tryz.ntmps93];rfl) ?_;show Wc Tryz.prog ⟨93,19,none⟩ _ _ _ _ _
 refine zz ?_
 refine Wc_loop (fun (k:Nat) m ds h'=>ds=[]/\I k h'/\k<=l.length/\AllK m [(0,.slice a l.length cap),(1,.func (.func g) ⟨first⟩ ⟨capv⟩),(7,i64 l.length),(8,i64 k)])
  (fun k=>l.length-k) 0 ?_ ?_
 ·exact⟨rfl,hI0,Nat.zero_le _,rfl,rfl,rfl,rfl,trivial⟩
 rintro k m ds h' ⟨rfl,hI,hk,hall⟩
 refine Wc.le ?_ (Le.kn hall)
 refine zz ?_
 refine Wo_dec rfl rfl rfl rfl (A_lss rfl rfl) (fun h1=>?_) (fun h1=>?_)
 ·have hk':k<l.length:=by simpa using h1
  obtain⟨b,o,oa,rfl,hc⟩:=hS k h' hI k hk'
  refine zz ?_
  refine Wo_do rfl rfl rfl rfl (A_ix Und.h Tsz.h rfl rfl) ?_
  refine zz ?_
  refine Wo_callr rfl rfl rfl rfl rfl hbd rfl rfl (hp k hk' h' hI) ?_
  rintro v h2 (⟨rfl,hI2⟩|⟨rfl,hK⟩)
  ·refine zz ?_
   refine⟨k+1,?_,rfl,hI2,hk',rfl,rfl,rfl,rfl,trivial⟩
   show l.length-(k+1)<l.length-k;omega
  ·refine zz ?_
   exact Wc_ret (Lv_ret rfl (.inr ⟨k,rfl,hK⟩))
 ·have hk2:k=l.length:=by omega
  subst hk2
  refine zz ?_
  exact Wc_ret (Lv_ret rfl (.inl ⟨rfl,hI⟩))
theorem containsFuncM_sv {a:Option Addr}{cap:Nat}{l:List Int}{h:Heap}{g:FuncId}{first capv:List Value}(I:Nat->Heap->Prop)(K:Heap->Prop)(hI0:I 0 h)(hS:∀i h',I i h'->IntsAt h' a l)(hbd:bodied Tryz.prog g=true)
  (hp:∀i (hi:i<l.length) h',I i h'->Sv Tryz.prog g (first++([i64 l[i]]++capv)) h' (RetP fun v h2=>(v=.bool false/\I (i+1) h2)\/(v=.bool true/\K h2))) (hlen:l.length<9223372036854775808) :
  Sv Tryz.prog 48 [.slice a l.length cap,.func (.func g) ⟨first⟩ ⟨capv⟩] h (RetP fun v h'=>(v=.bool false/\I l.length h')\/(v=.bool true/\K h')):=by
 refine Sv_enter Tryz.func48 rfl (by rw[Tryz.ntmps48];rfl) ?_;show Wc Tryz.prog ⟨48,9,none⟩ _ _ _ _ _
 refine zz ?_
 refine Wo_callr rfl rfl rfl rfl rfl Bod.h rfl rfl (indexFuncM_sv I K hI0 hS hbd hp hlen) ?_
 rintro v h1 (⟨rfl,hI⟩|⟨i,rfl,hK⟩)
 ·refine zz ?_
  refine Wo_do rfl rfl rfl rfl (A_ff (by decide) (A_geq rfl rfl)) ?_
  refine zz ?_
  exact Wc_ret (Lv_ret rfl (.inl ⟨rfl,hI⟩))
 ·refine zz ?_
  refine Wo_do rfl rfl rfl rfl (A_tt (by omega) (A_geq rfl rfl)) ?_
  refine zz ?_
  exact Wc_ret (Lv_ret rfl (.inr ⟨rfl,hK⟩))
def PutPost (t:Task)(bar:Pl->Bool)(bt:Nat)(T:Pl->Option Nat)(r:Nat)(h:Heap)(v:Value)(h':Heap):Prop :=
 ∃T',Exb (fun b=>b=bt) h h'/\TakenIs h' bt T'/\(∀p s,T' p=some s->s<t.reels.length) ∧
  ((v=.bool true/\Won (adjB t bar) [] T T' r)\/(v=.bool false/\T'=T/\∃S':List Pl,S'.Nodup/\Lost (adjB t bar) [] S' T r))
theorem put_sv {h0 h:Heap}{t:Task}{am ar:Option Addr}{cm cr bb bt:Nat}{gb:FuncId}{fb cb:List Value}{bar:Pl->Bool}{T:Pl->Option Nat}{r:Nat}(hw0:WF h0)(hM:RowsAt 2 MachAt h0 am t.machines)(hR:RowsAt 5 ReelAt h0 ar t.reels)(hf:t.Fit)(hV:Valid t)(hbd:bodied Tryz.prog gb=true)
  (hbar:∀h1,Ext h0 h1->∀p,Sv Tryz.prog gb (fb++([plV p]++cb)) h1 (RetP fun v h2=>v=.bool (bar p)/\Ext h1 h2)) (hn1:h0.nx<=bt) (hE:Ext h0 h) (hgb:h.get bb=some (.cells (benchC t am ar cm cr (.map (some bt))) 116 false)) (hT:TakenIs h bt T) (hr:r<t.reels.length) (hTr:∀p s,T p=some s->s<t.reels.length) :
  Sv Tryz.prog 97 [ptr bb,i64 (r:Nat),.func (.func gb) ⟨fb⟩ ⟨cb⟩] h (RetP fun v h'=>PutPost t bar bt T r h v h'):=by
 refine Sv_wf fun hw=>?_
 refine Sv_enter Tryz.func97 rfl (by rw[Tryz.ntmps97];rfl) ?_;show Wc Tryz.prog ⟨97,14,none⟩ _ _ _ _ _
 refine zz ?_
 refine Wo_box rfl rfl rfl fun h1 hE1 hW1 hg1 hx1=>?_
 refine Wo_box rfl rfl rfl fun h2 hE2 hW2 hg3 hx2=>?_
 refine zz ?_
 refine Wo_mkMap rfl rfl fun h3 hE3 hW3 hgs hx3=>?_
 refine Wo_allocStore rfl rfl Zr.h Tsz.h rfl (fun _=>rfl) rfl rfl rfl fun h4 hE4 hW4 hg2 hx4=>?_
 refine zz ?_
 refine Wo_alloc rfl rfl Zr.h fun h5 hE5 hW5 hg4 hx5=>?_
 refine zz ?_
 refine Wo_store rfl Tsz.h rfl rfl hg4 rfl rfl rfl fun h6 hU6=>?_
 have hE15:Ext h h5:=hE1.trans (hE2.trans (hE3.trans (hE4.trans hE5)))
 have hE6:Ext h h6:=hU6.ext hE15 hw (by omega)
 replace hg1:=hU6.get (show h.nx≠h4.nx by omega) (hE5.get (hE4.get (hE3.get (hE2.get hg1))))
 replace hg3:=hU6.get (show h1.nx≠h4.nx by omega) (hE5.get (hE4.get (hE3.get hg3)))
 replace hgs:=hU6.get (show h2.nx≠h4.nx by omega) (hE5.get (hE4.get hgs))
 replace hg2:=hU6.get (show h3.nx≠h4.nx by omega) (hE5.get hg2)
 replace hg4:=hU6.at'
 have hbt:=hT.lt hw
 have h0n:=hE.2.1
 have hall:h.nx<=h2.nx:=by omega
 clear hE1 hE2 hE3 hE4 hE5 hW1 hW2 hW3 hW4 hW5 hU6 hE15
 generalize h4.nx=c4 at *
 generalize h3.nx=c2 at *
 generalize h2.nx=bs at *
 generalize h1.nx=c3 at *
 generalize hnx:h.nx=c1 at *
 refine zz ?_
 refine Wo_callr rfl rfl rfl rfl rfl Bod.h rfl rfl (try_sv ⟨h0,t,am,ar,cm,cr,bb,c1,c2,c3,c4,bt,bs,gb,fb,cb,bar⟩ ⟨hw0,hM,hR,hf,hV,hbd,hbar,(show bt≠bs by omega),hn1,(show h0.nx<=bs by omega)⟩ _ h6 [] T r rfl ⟨hE.trans hE6,hg1,hg2,hg3,hg4,hE6.get hgb⟩ (hT.ext hE6) ⟨[],MapB.new _ hgs,fun p=>by simp[lkp]⟩ List.nodup_nil hr hTr) ?_
 rintro v h7 ⟨S',T',hX,hT7,_,hSd,_,hr7,hcase⟩
 refine zz ?_
 refine Wc_ret (Lv_ret rfl ⟨T',?_,hT7,hr7,?_⟩)
 ·exact Exb.new ((Exb.of hE6).trans (hX.mono fun b hb=>hb.elim .inl fun e=>.inr (by rw[hnx];subst e;exact hall))) hw
 ·rcases hcase with ⟨e,hw⟩|⟨e,e2,hl⟩
  ·exact .inl ⟨e,hw⟩
  ·exact .inr ⟨e,e2,S',hSd,hl⟩
theorem fits1_sv {h0 h:Heap}{t:Task}{am ar:Option Addr}{cm cr bb bt c7 c5:Nat}{gb:FuncId}{fb cb:List Value}{bar:Pl->Bool}{T:Pl->Option Nat}{r:Nat}(hw0:WF h0)(hM:RowsAt 2 MachAt h0 am t.machines)(hR:RowsAt 5 ReelAt h0 ar t.reels)(hf:t.Fit)(hV:Valid t)(hbd:bodied Tryz.prog gb=true)
  (hbar:∀h1,Ext h0 h1->∀p,Sv Tryz.prog gb (fb++([plV p]++cb)) h1 (RetP fun v h2=>v=.bool (bar p)/\Ext h1 h2)) (hn1:h0.nx<=bt) (hE:Ext h0 h) (hgb:h.get bb=some (.cells (benchC t am ar cm cr (.map (some bt))) 116 false)) (hT:TakenIs h bt T) (hr:r<t.reels.length) (hTr:∀p s,T p=some s->s<t.reels.length)
  (hg7:h.get c7=some (.cells [ptr bb] 113 false)) (hg5:h.get c5=some (.cells [.func (.func gb) ⟨fb⟩ ⟨cb⟩] 108 false)) :
  Sv Tryz.prog 96 [i64 (r:Nat),ptr c7,ptr c5] h (RetP fun v h'=>∃b,v=.bool (!b)/\PutPost t bar bt T r h (.bool b) h'):=by
 refine Sv_enter Tryz.func96 rfl (by rw[Tryz.ntmps96];rfl) ?_;show Wc Tryz.prog ⟨96,10,none⟩ _ _ _ _ _
 refine zz ?_
 refine Wo_callr rfl rfl rfl rfl rfl Bod.h rfl rfl (put_sv hw0 hM hR hf hV hbd hbar hn1 hE hgb hT hr hTr) ?_
 rintro v h7 ⟨T',hX,hT7,hr7,hcase⟩
 rcases hcase with ⟨rfl,hw⟩|⟨rfl,e2,S',hSd,hl⟩
 ·refine zz ?_
  exact Wc_ret (Lv_ret rfl ⟨true,rfl,T',hX,hT7,hr7,.inl ⟨rfl,hw⟩⟩)
 ·refine zz ?_
  exact Wc_ret (Lv_ret rfl ⟨false,rfl,T',hX,hT7,hr7,.inr ⟨rfl,e2,S',hSd,hl⟩⟩)
theorem M_perm {P:Type}{adj:Nat->P->Prop}{T:P->Option Nat}{K K':List Nat}{f:Nat->P}{X:P->Prop}(h:M adj T K f X)(hk:∀r,r∈K ↔ r∈K'):M adj T K' f X :=
 ⟨fun r hr=>h.has r ((hk r).2 hr),fun r hr=>h.can r ((hk r).2 hr),fun p r hx ht=>⟨(hk r).1 (h.inv p r hx ht).1,(h.inv p r hx ht).2⟩⟩
def natsL (l:List Int):List Nat:=l.map Int.toNat
theorem natsL_nodup {l:List Int}(hn:l.Nodup)(h0:∀x∈l,0<=x):(natsL l).Nodup:=map_nodup (fun a ha b hb e=>by have:=h0 a ha;have:=h0 b hb;omega) hn
theorem fits_sv {tc:List Value}{t:Task}{a:Option Addr}{l:List Int}{cap:Nat}{gb:FuncId}{fb cb:List Value}{bar:Pl->Bool}{h:Heap}(ht:TaskAt h tc t)(hf:t.Fit)(hV:Valid t)(hI:IntsAt h a l)(hln:l.Nodup)(hl0:∀x∈l,0<=x/\x<t.reels.length)(hlen:l.length<9223372036854775808)(hbd:bodied Tryz.prog gb=true)
  (hbar:∀h1,Ext h h1->∀p,Sv Tryz.prog gb (fb++([plV p]++cb)) h1 (RetP fun v h2=>v=.bool (bar p)/\Ext h1 h2)) :
  Sv Tryz.prog 56 [.agg ⟨tc⟩,.slice a l.length cap,.func (.func gb) ⟨fb⟩ ⟨cb⟩] h (RetP fun v h'=>∃b,v=.bool b/\(b=true ↔ Fit (adjB t bar) (natsL l))/\Ext h h'):=by
 obtain⟨am,cm,ar,cr,rfl,hM,hR⟩:=ht
 refine Sv_wf fun hw=>?_
 refine Sv_enter Tryz.func56 rfl (by rw[Tryz.ntmps56];rfl) ?_;show Wc Tryz.prog ⟨56,16,none⟩ _ _ _ _ _
 refine zz ?_
 refine Wo_box rfl rfl rfl fun h1 hE1 hW1 hg1 hx1=>?_
 refine Wo_box rfl rfl rfl fun h2 hE2 hW2 hg5 hx2=>?_
 replace hg1:=hE2.get hg1
 refine zz ?_
 refine Wo_mkMap rfl rfl fun h3 hE3 hW3 hgt hx3=>?_
 refine zz ?_
 refine Wo_do rfl rfl rfl rfl (A_build rfl rfl) ?_
 refine Wo_box rfl rfl rfl fun h4 hE4 hW4 hgb hx4=>?_
 refine Wo_allocStore rfl rfl Zr.h Tsz.h rfl (fun _=>rfl) rfl rfl rfl fun h5 hE5 hW5 hg7 hx5=>?_
 have hE:Ext h h5:=hE1.trans (hE2.trans (hE3.trans (hE4.trans hE5)))
 replace hg5:=hE5.get (hE4.get (hE3.get hg5))
 replace hgt:=hE5.get (hE4.get hgt)
 replace hgb:=hE5.get hgb
 have hbt:h.nx<=h2.nx:=by omega
 clear hE1 hE2 hE3 hE4 hE5 hW1 hW2 hW3 hW4 hg1
 generalize h4.nx=c7 at *
 generalize h3.nx=bb at *
 generalize h2.nx=bt at *
 generalize h1.nx=c5 at *
 refine zz ?_
 have h7t:c7≠bt:=fun e=>by rw[e,hgt] at hg7;cases hg7
 have h5t:c5≠bt:=fun e=>by rw[e,hgt] at hg5;cases hg5
 have hbbt:bb≠bt:=fun e=>by rw[e,hgt] at hgb;cases hgb
 let I:Nat->Heap->Prop:=fun i h'=>Exb (fun b=>b=bt) h5 h'/\∃T f,TakenIs h' bt T/\(∀p s,T p=some s->s<t.reels.length)/\M (adjB t bar) T (natsL (l.take i)) f (fun _=>False)
 let K:Heap->Prop:=fun h'=>Exb (fun b=>b=bt) h5 h'/\¬Fit (adjB t bar) (natsL l)
 have hX0:∀{h'},Exb (fun b=>b=bt) h5 h'->Ext h h':=fun {h'} hX=>hX.ext hE hw fun b e=>by rw[e];exact hbt
 refine Wo_callr rfl rfl rfl rfl rfl Bod.h rfl rfl (containsFuncM_sv (first:=[]) I K ⟨Exb.refl _ _,fun _=>none,fun _=>(0,0,0),⟨[],MapB.new _ hgt,fun p=>by simp[lkp]⟩,(fun _ _ h=>nomatch h),⟨(fun _ h=>nomatch h),(fun _ h=>nomatch h),(fun _ _ _ h=>nomatch h)⟩⟩ (fun i h' hJ=>hI.ext (hX0 hJ.1)) Bod.h (fun i hi h' hJ=>?_) hlen) ?_
 ·obtain⟨hX,T,f,hT,hTr,hMt⟩:=hJ
  have hx:=hl0 _ (List.getElem_mem hi)
  obtain⟨r,hre⟩:∃r:Nat,l[i]=r:=⟨l[i].toNat,by omega⟩
  have hr:r<t.reels.length:=by omega
  rw[hre]
  refine (fits1_sv hw hM hR hf hV hbd hbar hbt (hX0 hX) (hX.get hbbt hgb) hT hr hTr (hX.get h7t hg7) (hX.get h5t hg5)).ret ?_
  rintro v h' ⟨b,rfl,T',hX',hT',hr',hcase⟩
  have hnin:r ∉ natsL (l.take i):=fun hm=>by
   obtain⟨x,hx1,hx2⟩:=List.mem_map.1 hm
   have h0:=hl0 x (List.mem_of_mem_take hx1)
   have e:x=l[i]:=by omega
   obtain⟨j,hj,hje⟩:=List.getElem_of_mem hx1
   rw[List.getElem_take] at hje
   have:=(List.getElem_inj hln).1 (hje.trans e)
   simp at hj;omega
  have hcons:∀s,s∈r::natsL (l.take i) ↔ s∈natsL (l.take (i+1)):=fun s=>by
   rw[take_succ hi,hre]
   simp only[natsL,List.map_append,List.map_cons,List.map_nil,List.mem_append,List.mem_cons,List.not_mem_nil,or_false]
   rw[Int.toNat_natCast]
   exact or_comm
  rcases hcase with ⟨e,hwon⟩|⟨e,e2,S',hSd,hlost⟩
  ·cases e
   obtain⟨f',hM'⟩:=hwon.now _ f _ hMt hnin (fun _ h=>h.elim)
   exact .inl ⟨rfl,hX.trans hX',T',f',hT',hr',M_perm hM' hcons⟩
  ·cases e
   refine .inr ⟨rfl,hX.trans hX',fun hF=>lost_unfit hMt hnin hSd hlost (hF.mono fun s hs=>?_)⟩
   obtain⟨x,hx1,hx2⟩:=List.mem_map.1 ((hcons s).1 hs)
   exact List.mem_map.2 ⟨x,List.mem_of_mem_take hx1,hx2⟩
 rintro v h6 (⟨rfl,hX,T,f,_,_,hMt⟩|⟨rfl,hX,hn⟩)
 ·refine zz ?_
  rw[List.take_length] at hMt
  exact Wc_ret (Lv_ret rfl ⟨true,rfl,⟨fun _=>hMt.fit,fun _=>rfl⟩,hX0 hX⟩)
 ·refine zz ?_
  exact Wc_ret (Lv_ret rfl ⟨false,rfl,⟨(fun h=>nomatch h),fun h=>(hn h).elim⟩,hX0 hX⟩)
theorem free_sv (p:Pl)(h:Heap):Sv Tryz.prog 57 [plV p] h (RetP fun v h'=>v=.bool false/\Ext h h'):=by
 refine Sv_enter Tryz.func57 rfl (by rw[Tryz.ntmps57];rfl) ?_;show Wc Tryz.prog ⟨57,3,none⟩ _ _ _ _ _
 refine zz ?_
 refine Wo_box rfl rfl rfl fun h1 hE1 hW1 hg1 hx1=>?_
 refine zz ?_
 exact Wc_ret (Lv_ret rfl ⟨rfl,hE1⟩)
end Go.Dw
/- Q3: the contract of rescue.Fits; the plain law beside it. -/
namespace Go.Dw
open Go Go.Dx Go.Proofs Go.Mt
set_option maxRecDepth 100000
open Classical in
noncomputable def fitsS (t:Task)(l:List Int):Bool×Int :=
 if errS t≠0 then (false,errS t) else if mixedB t.reels.length (-1) l=true then (false,2) else (decide (Fit (adjB t fun _=>false) (natsL l)),0)
def tupB (x:Bool×Int):Value:=.tuple ⟨[.bool x.1,i64 x.2]⟩
end Go.Dw
