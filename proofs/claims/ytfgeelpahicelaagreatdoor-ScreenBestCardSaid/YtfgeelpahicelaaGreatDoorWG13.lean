/- LW: the best programme and its prices, with no program in sight. -/
import Derived.Test.YtfgeelpahicelaaGreatDoorWG12
import Derived.Test.YtfgeelpahicelaaGreatDoorWG2
import Derived.Test.YtfgeelpahicelaaGreatDoorWG11
set_option linter.unusedVariables false
set_option linter.unusedSimpArgs false
namespace Go.Dw
open Go Go.Dx Go.Proofs
set_option maxRecDepth 100000
theorem long_rng2 {t:ScT}(hO:ScOk t){s:ScS}(h:shownErr t s=0):1<=longS t s/\longS t s<=40660:=by
 obtain⟨_,hpp,_,hsp,_⟩:=shown_ok h
 obtain⟨_,_,hch,_⟩:=venue_ok (ven_ok hO h)
 unfold longS
 split
 ·rename_i hp
  obtain⟨h1,_⟩:=pack_ok (pk_ok hO h hp)
  have h2:=upS_pos h1.1 hsp.1
  have h3:=upS_le h1.1 hsp.1
  have h4:=upS_pos h2 (show (1:Int)<=60 by decide)
  refine⟨h4,?_⟩
  rw[upS_eq (by decide)]
  omega
 ·rename_i hp
  have hp':s.pack = -1:=by omega
  obtain⟨h1,h2,_⟩:=print_ok (pr_ok hO h hp')
  have h3:=secs_rng hsp.1 h2
  have h4:=upS_pos (show 1<=secsS (prAt t s).reels s.speed by omega) (show (1:Int)<=60 by decide)
  have h5:upS (secsS (prAt t s).reels s.speed) 60<=40000:=by rw[upS_eq (by decide)];omega
  have h6:0<=(venAt t s).change*(((prAt t s).reels.length:Int)-1):=Int.mul_nonneg hch.1 (by omega)
  have h7:(venAt t s).change*(((prAt t s).reels.length:Int)-1)<=60*11:=Int.mul_le_mul hch.2 (by omega) (by omega) (by decide)
  split <;> omega
theorem over_late {t:ScT}(hO:ScOk t){s:ScS}(hs0:shownErr t s=0):overS t s<=115200:=by
 have hlr:=long_rng2 hO hs0
 obtain⟨-,-,⟨mi1,mi2⟩,-⟩:=shown_ok hs0
 obtain⟨-,-,-,⟨tu1,tu2⟩,-⟩:=venue_ok (ven_ok hO hs0)
 unfold overS endS
 omega
theorem row_nodup {P:List Iv}(hR:RowI P)(hv:∀x∈P,x.s<x.e):P.Nodup:=by
 unfold RowI at hR
 unfold List.Nodup
 refine hR.imp_of_mem fun {a b} ha hb h e=>?_
 have:=hv b hb
 rw[e] at h
 omega
instance:DecidableEq Iv:=fun a b=>decidable_of_iff (a.s=b.s/\a.e=b.e/\a.w=b.w) ⟨fun ⟨h1,h2,h3⟩=>by cases a;cases b;simp_all,fun h=>by subst h;simp⟩
theorem sumW_le {P:List Iv}(h:∀x∈P,x.w<=1000000):sumW P<=1000000*P.length:=by
 induction P with
 | nil=>simp[sumW]
 | cons x P ih =>
  have h1:=h x List.mem_cons_self
  have h2:=ih fun y hy=>h y (List.mem_cons_of_mem _ hy)
  rw[sumW_cons,List.length_cons]
  omega
theorem mostI_cnt {I:List Iv}(hok:∀x∈I,x.Ok)(hw:∀x∈I,x.w<=1000000){b:Int}(hb:0<=b):mostI I b<=1000000*I.length:=by
 obtain⟨P,h1,h2,h3⟩:=row_best hok b.toNat (b:=b) hb (by omega)
 rw[<-h3]
 have h4:=sumW_le (P:=P) fun x hx=>hw x (h1 x hx).1
 have h5:=nodup_len (row_nodup h2 fun x hx=>(hok x (h1 x hx).1).se) fun x hx=>(h1 x hx).1
 omega
theorem prGo_prices {I:List Iv}(hpr:∀e,1<=e->priceI I e<=40000000):∀{E:List Int}{bef:Int},E.Pairwise (· < ·)->(∀e∈E,1<=e/\e<=115200/\bef<e-1)->prGo bef (priceL I E)=0
 | [],_,_,_=>rfl
 | e::E,bef,hE,h=>by
  rw[List.pairwise_cons] at hE
  obtain⟨h1,h2,h3⟩:=h e List.mem_cons_self
  unfold priceL
  rw[List.filterMap_cons]
  by_cases hp:0<priceI I e
  ·rw[if_pos hp]
   have h4:=hpr e h1
   show prGo bef ((e-1,priceI I e)::priceL I E)=0
   rw[prGo,if_neg (by simp only;omega),if_neg (by simp only;omega)]
   exact prGo_prices hpr hE.2 fun x hx=>by
    obtain⟨q1,q2,q3⟩:=h x (List.mem_cons_of_mem _ hx)
    have:=hE.1 x hx
    exact⟨q1,q2,by simp only;omega⟩
  ·rw[if_neg hp]
   exact prGo_prices hpr hE.2 fun x hx=>h x (List.mem_cons_of_mem _ hx)
theorem coverI_prices {I:List Iv}{x:Iv}:∀{E:List Int},(∀e∈E,0<=priceI I e)->coverI (priceL I E) x=((E.filter fun e=>decide (x.s<e/\e<=x.e)).map (priceI I)).sum
 | [],_=>rfl
 | e::E,h=>by
  have ih:=coverI_prices (I:=I) (x:=x) (E:=E) fun y hy=>h y (List.mem_cons_of_mem _ hy)
  have h0:=h e List.mem_cons_self
  unfold priceL
  rw[List.filterMap_cons,List.filter_cons]
  by_cases hp:0<priceI I e
  ·rw[if_pos hp]
   show coverI ((e-1,priceI I e)::priceL I E) x=_
   unfold coverI at ih ⊢
   rw[List.filter_cons]
   by_cases hc:x.s<e/\e<=x.e
   ·rw[if_pos (decide_eq_true hc),if_pos (by simp only[decide_eq_true_eq];omega),List.map_cons,List.sum_cons,List.map_cons,List.sum_cons,ih]
   ·rw[if_neg (show ¬decide (x.s<e/\e<=x.e)=true by simpa using hc),if_neg (by simp only[decide_eq_true_eq];omega),ih]
  ·rw[if_neg hp]
   show coverI (priceL I E) x=_
   rw[ih]
   by_cases hc:x.s<e/\e<=x.e
   ·rw[if_pos (decide_eq_true hc),List.map_cons,List.sum_cons];omega
   ·rw[if_neg (show ¬decide (x.s<e/\e<=x.e)=true by simpa using hc)]
theorem totalI_prices {I:List Iv}:∀{E:List Int},(∀e∈E,0<=priceI I e)->totalI (priceL I E)=(E.map (priceI I)).sum
 | [],_=>rfl
 | e::E,h=>by
  have ih:=totalI_prices (I:=I) (E:=E) fun y hy=>h y (List.mem_cons_of_mem _ hy)
  have h0:=h e List.mem_cons_self
  unfold priceL
  rw[List.filterMap_cons]
  by_cases hp:0<priceI I e
  ·rw[if_pos hp]
   show totalI ((e-1,priceI I e)::priceL I E)=_
   unfold totalI at ih ⊢
   rw[List.map_cons,List.sum_cons,List.map_cons,List.sum_cons,ih]
  ·rw[if_neg hp]
   show totalI (priceL I E)=_
   rw[ih,List.map_cons,List.sum_cons]
   omega
theorem can_facts {t:ScT}{v:Int}{l:List ScS}(hsh:∀s∈l,shownErr t s=0):∀c∈canS t v l,shownErr t c.1=0/\c.1.venue=v/\whyS t c.1=0/\c.1∈l:=fun c hc=>by
 obtain⟨h1,h2,h3,h4⟩:=canS_mem hc
 obtain⟨h5,h6⟩:=List.getElem?_eq_some_iff.1 h2
 have hm:c.1∈l:=by rw[<-h6];exact List.getElem_mem h5
 exact⟨hsh _ hm,h3,h4,hm⟩
theorem canI_ok {t:ScT}(hO:ScOk t){v:Int}{l:List ScS}(hsh:∀s∈l,shownErr t s=0):∀x∈canI t v l,x.Ok/\x.w<=1000000/\x.e<=115200/\1<=x.e:=fun x hx=>by
 obtain⟨c,hc,rfl⟩:=List.mem_map.1 hx
 have h0:=(can_facts hsh c hc).1
 obtain⟨-,-,-,-,w1,w2⟩:=shown_ok h0
 exact⟨ivZ_ok (z:=(0,c.1)) hO h0,w2,over_late hO h0,(over_rng hO h0).1⟩
theorem cover_best {t:ScT}(hO:ScOk t){v:Int}{l:List ScS}(he:candErr t v l=0)(hl40:l.length<=40)(hsh:∀s∈l,shownErr t s=0){E:List Int}(hE:EndsOk (canI t v l) E):coverS t v l (priceL (canI t v l) E)=(bestW t v l,-1,0):=by
 have hF:=canI_ok (v:=v) hO hsh
 have hok:∀x∈canI t v l,x.Ok:=fun x hx=>(hF x hx).1
 have hil:(canI t v l).length<=40:=by
  unfold canI
  rw[List.length_map]
  exact Nat.le_trans canS_len hl40
 have hEr:∀e∈E,1<=e/\e<=115200:=fun e he=>by
  obtain⟨x,hx,rfl⟩:=(hE.2 e).1 he
  exact⟨(hF x hx).2.2.2,(hF x hx).2.2.1⟩
 have hp0:∀e,1<=e->0<=priceI (canI t v l) e/\priceI (canI t v l) e<=40000000:=fun e h1=>by
  have h2:=mostI_mono hok (show 0<=e-1 by omega) (show e-1<=e by omega)
  have h3:=mostI_cnt hok (fun x hx=>(hF x hx).2.1) (b:=e) (by omega)
  have h4:=mostI_nonneg hok (b:=e-1) (by omega)
  unfold priceI
  omega
 have hpE:∀e∈E,0<=priceI (canI t v l) e:=fun e h=>(hp0 e (hEr e h).1).1
 have hpl:=priceL_len (l:=canI t v l) (E:=E)
 have hel:=ends_len hE
 have hcE:coverE t v l (priceL (canI t v l) E)=0:=by
  unfold coverE
  rw[if_neg (fun q=>q he),if_neg (by omega)]
  exact prGo_prices (fun e h=>(hp0 e h).2) hE.1 fun e h=>⟨(hEr e h).1,(hEr e h).2,by have:=(hEr e h).1;omega⟩
 have hsum:∀{a b:Int},0<=a->a<=b->((E.filter fun e=>decide (a<e/\e<=b)).map (priceI (canI t v l))).sum=mostI (canI t v l) b-mostI (canI t v l) a:=fun {a b} h1 h2=>price_sum hok hE.1 (fun x hx=>(hE.2 _).2 ⟨x,hx,rfl⟩) (fun e h=>(hEr e h).1) h1 h2
 rw[coverS_no hcE fun c hc=>?_]
 ·have hall:(E.filter fun e=>decide ((0:Int)<e/\e<=115200))=E:=List.filter_eq_self.2 fun e h=>decide_eq_true ⟨by have:=(hEr e h).1;omega,(hEr e h).2⟩
  have h1:=hsum (a:=0) (b:=115200) (by decide) (by decide)
  have h2:mostI (canI t v l) 0=0:=by
   rw[mostI_eq hok (by decide)]
   refine Int.le_antisymm (maxBy_le (Int.le_refl _) fun x hx hp=>?_) maxBy_base
   have:=(hF x hx).2.2.2
   omega
  rw[hall,h2] at h1
  rw[totalI_prices hpE,h1]
  unfold bestW
  rw[Int.sub_zero]
 ·have hx:ivS t c.1∈canI t v l:=List.mem_map_of_mem hc
  have hxo:=hok _ hx
  have h1:=hsum (a:=(ivS t c.1).s) (b:=(ivS t c.1).e) hxo.s0 (Int.le_of_lt hxo.se)
  unfold failS
  rw[coverI_prices hpE,h1]
  refine decide_eq_false ?_
  have h2:=mostI_eq hok (show 0<=(ivS t c.1).e by have:=hxo.s0;have:=hxo.se;omega)
  have h3:=maxBy_ge (p:=fun y:Iv=>y.e<=(ivS t c.1).e) (f:=fun y=>y.w+mostI (canI t v l) y.s) (n0:=0) hx (Int.le_refl _)
  rw[<-h2] at h3
  have h4:(ivS t c.1).w=c.1.worth:=rfl
  omega
theorem dist_disj {t:ScT}{v:Int}{P:List ScS}(hv:∀s∈P,s.venue=v):Disj (P.map (ivS t)) ↔ P.Pairwise fun a b=>distB t a b=false:=by
 unfold Disj
 rw[List.pairwise_map]
 constructor
 ·intro h
  refine h.imp_of_mem fun {a b} ha hb hd=>?_
  rw[dist_apart (by rw[hv a ha,hv b hb]),decide_eq_true hd];rfl
 ·intro h
  refine h.imp_of_mem fun {a b} ha hb hd=>?_
  rw[dist_apart (by rw[hv a ha,hv b hb])] at hd
  have:decide (apart2 (ivS t a) (ivS t b))=true:=by simpa using hd
  exact of_decide_eq_true this
def worthL (l:List ScS):Int:=(l.map ScS.worth).sum
theorem worth_iv {t:ScT}(l:List ScS):sumW (l.map (ivS t))=worthL l:=by
 unfold sumW worthL
 rw[List.map_map];rfl
theorem worthL_take {l:List ScS}{k:Nat}(hk:k<l.length):worthL (l.take (k+1))=worthL (l.take k)+l[k].worth:=by
 unfold worthL
 rw[List.take_add_one,List.getElem?_eq_getElem hk,List.map_append,List.sum_append]
 show _+(l[k].worth+0)=_
 rw[Int.add_zero]
theorem chosen_facts {t:ScT}(hO:ScOk t){v:Int}{l:List ScS}(hl40:l.length<=40)(hsh:∀s∈l,shownErr t s=0):(chosenS t v l).Sublist (canS t v l)/\worthL ((chosenS t v l).map Prod.fst)=bestW t v l/\(playS t ((chosenS t v l).map Prod.fst)).1=(chosenS t v l).map Prod.fst:=by
 have hF:=can_facts (v:=v) hsh
 have hI:=canI_ok (v:=v) hO hsh
 have h1:=choP_best (fun c:ScS×Nat=>ivS t c.1) 115200 (W:=bestW t v l) (f:=(canS t v l).length) (l:=canS t v l) (s:=0) (Nat.le_refl _) (fun c hc=>by
  have:=hI (ivS t c.1) (List.mem_map_of_mem hc)
  exact⟨this.1,this.2.2.1⟩) (by decide) (by
  show 0+mostI ((canS t v l).map fun c=>ivS t c.1) 115200=bestW t v l
  rw[Int.zero_add];rfl)
 obtain⟨h2,h3,h4⟩:=h1
 have hmm:(chosenS t v l).map (fun c:ScS×Nat=>ivS t c.1)=((chosenS t v l).map Prod.fst).map (ivS t):=by rw[List.map_map];rfl
 have hv:∀s∈(chosenS t v l).map Prod.fst,s.venue=v/\whyS t s=0:=fun s hs=>by
  obtain⟨c,hc,rfl⟩:=List.mem_map.1 hs
  have:=hF c (h4.subset hc)
  exact⟨this.2.1,this.2.2.1⟩
 refine⟨h4,?_,play_all t _ (fun s hs=>(hv s hs).2) ?_⟩
 ·rw[<-worth_iv (t:=t),<-hmm]
  have h5:0+sumW ((chosenS t v l).map fun c:ScS×Nat=>ivS t c.1)=bestW t v l:=h2
  omega
 ·have h6:Disj ((chosenS t v l).map fun c:ScS×Nat=>ivS t c.1):=h3
  rw[hmm] at h6
  exact (dist_disj fun s hs=>(hv s hs).1).1 h6
theorem other_le {t:ScT}(hO:ScOk t){v:Int}{l K:List ScS}(hl40:l.length<=40)(hsh:∀s∈l,shownErr t s=0)(hK:∀s∈K,s∈l/\s.venue=v):worthL (playS t K).1<=bestW t v l:=by
 obtain⟨h1,h2⟩:=play_kept t K
 obtain⟨-,-,h3⟩:=play_len t K
 have hI:=canI_ok (v:=v) hO hsh
 have hv:∀s∈(playS t K).1,s.venue=v:=fun s hs=>(hK s (h3 s hs).1).2
 rw[<-worth_iv (t:=t)]
 unfold bestW
 refine disj_le (fun x hx=>(hI x hx).1) (by decide) (fun x hx=>?_) ((dist_disj hv).2 h2)
 obtain⟨s,hs,rfl⟩:=List.mem_map.1 hx
 have hm:=(hK s (h3 s hs).1)
 obtain⟨j,hj,e⟩:=List.getElem_of_mem hm.1
 have hc:(s,j)∈canS t v l:=by
  unfold canS
  refine List.mem_filter.2 ⟨List.mem_zipIdx_iff_getElem?.2 ?_,decide_eq_true ⟨hm.2,h1 s hs⟩⟩
  rw[List.getElem?_eq_getElem hj,e]
 have hx2:ivS t s∈canI t v l:=List.mem_map_of_mem (f:=fun c:ScS×Nat=>ivS t c.1) hc
 exact⟨hx2,(hI _ hx2).2.2.1⟩
theorem any_cover {t:ScT}(hO:ScOk t){v:Int}{l:List ScS}{Q:List (Int×Int)}(hsh:∀s∈l,shownErr t s=0)(he:(coverS t v l Q).2.2=0)(ha:(coverS t v l Q).2.1 = -1):bestW t v l<=(coverS t v l Q).1:=by
 have hI:=canI_ok (v:=v) hO hsh
 by_cases hcE:coverE t v l Q=0
 rotate_left
 ·rw[coverS_bad hcE] at he
  exact absurd he hcE
 have hg0:prGo (-1) Q=0:=by
  unfold coverE at hcE
  split at hcE
  ·exact absurd hcE ‹_›
  split at hcE
  ·cases hcE
  exact hcE
 cases hf:(canS t v l).find? (failS t Q) with
 | some c =>
  rw[coverS_at hcE hf] at ha
  simp only at ha
  omega
 | none =>
  have hno:=List.find?_eq_none.1 hf
  rw[coverS_no hcE fun c hc=>by simpa using hno c hc]
  obtain⟨P,h1,h2,h3⟩:=disj_best (fun x hx=>(hI x hx).1) (show (0:Int)<=115200 by decide)
  show bestW t v l<=totalI Q
  have h4:bestW t v l=mostI (canI t v l) 115200:=rfl
  rw[h4,<-h3]
  refine cover_bound (l:=canI t v l) (fun q hq=>by have:=prGo_ok hg0 q hq;omega) (fun x hx=>?_) (fun x hx=>(h1 x hx).1) h2
  obtain⟨c,hc,rfl⟩:=List.mem_map.1 hx
  have:=hno c hc
  unfold failS at this
  have h5:¬coverI Q (ivS t c.1)<c.1.worth:=by simpa using this
  have h6:(ivS t c.1).w=c.1.worth:=rfl
  omega
theorem can_up {t:ScT}{v:Int}{l:List ScS}:(canS t v l).Pairwise fun a b=>a.2<b.2:=by
 unfold canS
 refine List.Pairwise.filter _ ?_
 rw[List.pairwise_iff_getElem]
 intro i j hi hj hij
 rw[List.getElem_zipIdx,List.getElem_zipIdx]
 simp only
 omega
end Go.Dw
/- L12: ScreenBest: its contract, for any task, shows, venue, prices and order. -/
namespace Go.Dw
open Go Go.Dx Go.Proofs
set_option maxRecDepth 100000
def U8R (_:Heap)(row:List Value)(z:Int):Prop:=row=[.int .u8 z]
theorem listed_of {t:ScT}{K:List ScS}(he:errSc t=0)(h1:K.length<=40)(h2:∀s∈K,shownErr t s=0):listedS t K=0:=by
 rw[listed_ok he]
 exact allErr_no (by omega) fun j hj=>h2 _ (List.getElem_mem hj)
set_option maxHeartbeats 16000000 in
theorem screenBest_sv {tc:List Value}{t:ScT}{l:List ScS}{v:Int}{Q:List (Int×Int)}{ord:List Int}{al aq ao:Option Addr}{cl cq co:Nat}{h:Heap}(ht:ScTAt h tc t)(hT:t.Fit)(hl:RowsAt 6 ScSR h al l)(hlF:∀s∈l,s.Fit)(hL:Len l)(hv:I64 v)(hQ:RowsAt 2 PrR h aq Q)(hLQ:Len Q)(hOr:RowsAt 1 U8R h ao ord)(hOF:∀z∈ord,0<=z/\z<256)(hLO:Len ord)(hTb:TabAt spTab h) :
  Sv Tryz.prog 14 [.agg ⟨tc⟩,.slice al l.length cl,.agg ⟨[i64 v,.slice aq Q.length cq,.slice ao ord.length co]⟩] h (RetP fun v h'=>v=.bool true/\Ext h h'):=by
 have ht0:=ht
 obtain⟨xl,cxl,at',ct,a1,c1',a2,c2',a3,c3',a4,c4',a5,c5',a6,c6',rfl,-⟩:=ht
 refine Sv_wf fun hw=>?_
 refine Sv_enter Tryz.func14 rfl (by rw[Tryz.ntmps14];rfl) ?_;show Wc Tryz.prog ⟨14,263,none⟩ _ _ _ _ _
 refine zy ?_
 refine Wo_box rfl rfl rfl fun h1 hE1 hW1 hg1 hn1=>?_
 refine zy ?_
 refine Wo_box rfl rfl rfl fun h2 hE2 hW2 hg2 hn2=>?_
 replace hg1:=hE2.get hg1
 have hE:=hE1.trans hE2
 generalize h.nx=b1 at *
 generalize h1.nx=b2 at *
 clear hW1 hn1 hW2 hn2 hE1 hE2
 clear h1
 have hcov:=fun {h':Heap} (hE:Ext h h') {aq:Option Addr} {cq:Nat} {Q:List (Int×Int)} (hQ:RowsAt 2 PrR h' aq Q) (hLQ:Len Q)=>scCover_sv (cq:=cq) (cl:=cl) (ht0.ext hE) hT hv (RowsAt.ext (R:=ScSR) (fun x _=>x) hl hE) hlF hL hQ hLQ
 refine zy ?_
 refine Wo_callr rfl rfl rfl rfl rfl Bod.h rfl rfl (scBest_sv (ht0.ext hE) hT hv (RowsAt.ext (R:=ScSR) (fun x _=>x) hl hE) hlF hL) ?_
 rintro _ h3 ⟨hE3,hr⟩
 replace hg1:=hE3.get hg1
 replace hg2:=hE3.get hg2
 replace hE:=hE.trans hE3
 rcases hr with ⟨he,rfl⟩|⟨he,va,vp,E,rfl,hA,hEn,hP⟩
 ·refine zy ?_
  refine Wo_callE rfl rfl rfl rfl rfl Bod.h rfl rfl (refScCheck_sv (ht0.ext hE) hT) fun h4 hE4=>?_
  replace hE:=hE.trans hE4
  unfold tup3
  refine zy ?_
  refine Wo_do rfl rfl rfl rfl (A_tt (show ¬candErr t v l=0 from he) (A_neq rfl rfl)) ?_
  refine zy ?_
  refine Wo_do rfl rfl rfl rfl (A_tt rfl (A_eql rfl rfl)) ?_
  refine zy ?_
  refine Wo_do rfl rfl rfl rfl (A_tt rfl (A_eql rfl rfl)) ?_
  refine zy ?_
  refine Wo_callV rfl rfl rfl rfl rfl Bod.h rfl rfl (awake_sv (hTb.ext hE)) ?_
  refine zy ?_
  exact Wc_ret (Lv_ret rfl ⟨rfl,hE⟩)
 have he1:errSc t=0:=by
  unfold candErr at he
  split at he
  ·exact absurd he ‹_›
  ·rename_i q;exact Decidable.not_not.1 q
 have he2:allErr t l=0:=by
  unfold candErr at he
  rw[if_neg (fun q=>q he1)] at he
  split at he
  ·cases he
  ·exact he
 have hck:(checkSc t).2.2=0:=he1
 have hO:=sc_ok he1
 obtain⟨hl40,hsh⟩:=allErr_ok he2
 obtain⟨hCs,hCw,hCp⟩:=chosen_facts (v:=v) hO hl40 hsh
 have hcv:=cover_best hO he hl40 hsh hEn
 have hCF:∀c∈chosenS t v l,c.2<l.length/\l[c.2]?=some c.1/\c.1.venue=v/\whyS t c.1=0:=fun c hc=>canS_mem (hCs.subset hc)
 have hCu:(chosenS t v l).Pairwise fun a b=>a.2<b.2:=can_up.sublist hCs
 have hCl:(chosenS t v l).length<=40:=Nat.le_trans hCs.length_le (Nat.le_trans canS_len hl40)
 have hoth:=fun {K:List ScS} (hK:∀s∈K,s∈l/\s.venue=v)=>other_le hO hl40 hsh hK
 have hany:=any_cover (v:=v) (Q:=Q) hO hsh
 have hpl:=priceL_len (l:=canI t v l) (E:=E)
 have hel:=ends_len hEn
 have hcl:(canI t v l).length<=l.length:=by unfold canI;rw[List.length_map];exact canS_len
 have hWr:0<=bestW t v l/\bestW t v l<=40000000:=by
  have hI:=canI_ok (v:=v) hO hsh
  have q1:=mostI_nonneg (l:=canI t v l) (fun x hx=>(hI x hx).1) (show (0:Int)<=115200 by decide)
  have q2:=mostI_cnt (I:=canI t v l) (fun x hx=>(hI x hx).1) (fun x hx=>(hI x hx).2.1) (show (0:Int)<=115200 by decide)
  unfold bestW
  omega
 obtain⟨aA,rfl,hAl,hAr⟩:=FreshSl.list (enc:=i64) hA
 obtain⟨aP,cP,rfl,hPr⟩:=prRows_at hP
 clear hA hP
 rw[List.length_map]
 generalize chosenS t v l=CH at *
 generalize priceL (canI t v l) E=PR at *
 generalize bestW t v l=W at *
 refine zy ?_
 refine Wo_callE rfl rfl rfl rfl rfl Bod.h rfl rfl (refScCheck_sv (ht0.ext hE) hT) fun h4 hE4=>?_
 replace hE:=hE.trans hE4
 replace hg1:=hE4.get hg1
 replace hg2:=hE4.get hg2
 replace hAr:=hAr.ext hE4
 replace hPr:=RowsAt.ext (R:=PrR) (fun x _=>x) hPr hE4
 unfold tup3
 rw[hck]
 clear hE3 hE4
 refine zy ?_
 refine Wo_do rfl rfl rfl rfl (A_ff (show ¬¬(0:Int)=0 from fun q=>q rfl) (A_neq rfl rfl)) ?_
 refine zy ?_
 refine Wo_do rfl rfl rfl rfl (A_ff (show ¬¬(0:Int)=0 from fun q=>q rfl) (A_neq rfl rfl)) ?_
 refine zy ?_
 refine Wo_callE rfl rfl rfl rfl rfl Bod.h rfl rfl (hcov hE hPr (show PR.length<9223372036854775808 by omega)) fun h5 hE5=>?_
 rw[hcv]
 replace hE:=hE.trans hE5
 replace hg1:=hE5.get hg1
 replace hg2:=hE5.get hg2
 replace hAr:=hAr.ext hE5
 clear hE5 hcv hPr
 clear h4 h3
 unfold covV
 refine zy ?_
 refine Wo_do rfl rfl rfl rfl (A_ff (show ¬¬(0:Int)=0 from fun q=>q rfl) (A_neq rfl rfl)) ?_
 refine zy ?_
 refine Wo_do rfl rfl rfl rfl (A_ff (show ¬¬(-1:Int) = -1 from fun q=>q rfl) (A_neq rfl rfl)) ?_
 refine zy ?_
 refine Wo_do rfl rfl rfl rfl (A_ff (show ¬¬W=W from fun q=>q rfl) (A_neq rfl rfl)) ?_
 refine Wo_wf fun hw5=>?_
 have hn5:=hE.2.1
 refine zy ?_
 refine Wc.mono (Q:=fun z m' ds' h'=>z=.exit 0/\ds'=[]/\Ext h5 h'/\∃vo,FreshSl h5 h' vo 42 6 (shR CH) CH.length/\AllK m' [(1,.slice al l.length cl),(3,.pointer (some ⟨b1,0,none⟩)),(5,.pointer (some ⟨b2,0,none⟩)),(8,i64 W),(16,vo),(17,i64 (worthL (CH.map Prod.fst)))])
  (Wc_loop (fun (s:Nat×Value) m ds h'=>ds=[]/\s.1<=CH.length/\Ext h5 h'/\FreshSl h5 h' s.2 42 6 (shR (CH.take s.1)) s.1/\(0<=worthL ((CH.map Prod.fst).take s.1)/\worthL ((CH.map Prod.fst).take s.1)<=1000000*s.1)/\AllK m [(1,.slice al l.length cl),(3,.pointer (some ⟨b1,0,none⟩)),(5,.pointer (some ⟨b2,0,none⟩)),(7,.slice aA CH.length CH.length),(8,i64 W),(16,s.2),(17,i64 (worthL ((CH.map Prod.fst).take s.1))),(18,i64 s.1)]) (fun s=>CH.length-s.1) (0,.slice none 0 0) ?_ ?_) ?_
 ·exact⟨rfl,Nat.zero_le _,Ext.refl _,FreshSl.nil _ _ _ _,⟨by show (0:Int)<=0;decide,by show (0:Int)<=1000000*((0:Nat):Int);decide⟩,rfl,rfl,rfl,rfl,rfl,rfl,rfl,rfl,trivial⟩
 ·rintro⟨i,vo⟩ m ds h6 ⟨rfl,hi,hE6,hF6,⟨hw0,hw1⟩,hall⟩
  simp only at hi hF6 hw0 hw1 hall
  refine Wc_wf fun hw6=>?_
  refine Wc.le ?_ (Le.kn hall)
  clear hall
  refine zy ?_
  refine Wo_dec rfl rfl rfl rfl (A_lss rfl rfl) (fun hil=>?_) (fun hil=>?_)
  rotate_left
  ·have:i=CH.length:=by omega
   subst this
   rw[List.take_length] at hF6
   rw[show (CH.map Prod.fst).take CH.length=CH.map Prod.fst from List.take_of_length_le (by rw[List.length_map];exact Nat.le_refl _)]
   refine zy ?_
   exact⟨rfl,rfl,hE6,vo,hF6,rfl,rfl,rfl,rfl,rfl,rfl,trivial⟩
  have hi':i<CH.length:=by omega
  refine zy ?_
  obtain⟨hc1,hc2,hc3,hc4⟩:=hCF _ (List.getElem_mem hi')
  have him:i<(CH.map Prod.fst).length:=by rw[List.length_map];exact hi'
  have hwt:=worthL_take him
  rw[List.getElem_map] at hwt
  have htk:CH.take (i+1)=CH.take i++[CH[i]]:=by rw[List.take_add_one,List.getElem?_eq_getElem hi'];rfl
  have hpv:∀(h0:0<i),∃p:Nat,p<CH[i].2/\∃b o oa,aA=some ⟨b,o,oa⟩/\cellAt h5 b (o+(i-1)*1)=some (i64 (p:Int)):=fun h0=>by
   obtain⟨b,o,oa,e,hc⟩:=hAr (i-1) (by rw[List.length_map];omega)
   rw[List.getElem_map] at hc
   exact⟨_,List.pairwise_iff_getElem.1 hCu (i-1) i (by omega) hi' (by omega),b,o,oa,e,hc⟩
  obtain⟨bA,oA,oaA,rfl,hcA⟩:=hAr i (by rw[List.length_map];exact hi')
  rw[List.getElem_map] at hcA
  generalize CH[i]=c at *
  obtain⟨s,x⟩:=c
  simp only at hc1 hc2 hc3 hc4 hwt hpv hcA
  obtain⟨bl,ol,oal,rfl,row1,hrow1,hr1⟩:=hl x hc1
  rw[List.getElem?_eq_getElem hc1] at hc2
  obtain hr2:=Option.some.inj hc2
  rw[hr2] at hr1
  have hs0:shownErr t s=0:=hsh _ (by rw[<-hr2];exact List.getElem_mem hc1)
  obtain⟨-,-,-,-,w1,w2⟩:=shown_ok hs0
  obtain rfl:=hr1
  have hrow6:=(hE.trans hE6).row hrow1
  have cA6:=hE6.cell hcA
  have cv6:=cell_of_row (k:=0) hrow6 rfl
  rw[Nat.add_zero] at cv6
  have k1:=hE6.get hg1
  have k2:=hE6.get hg2
  have hNc':i+1=i+1:=rfl
  have hLl:l.length<9223372036854775808:=hL
  have hsn:shR (CH.take i++[(s,x)])=shR (CH.take i)++shVs s:=shR_snoc _ _
  rw[<-htk] at hsn
  have hEa:=Ext.add hw6 (.cells (shVs s) 42 false)
  have hn56:=hE6.2.1
  have hrowa:=hEa.row hrow6
  have cwa:=cell_of_row (k:=5) hrowa rfl
  have cw6:=cell_of_row (k:=5) hrow6 rfl
  have cAa:=hEa.cell cA6
  have k1a:=hEa.get k1
  have k2a:=hEa.get k2
  generalize hwq:worthL ((CH.map Prod.fst).take i)=wi at *
  generalize hwq2:worthL ((CH.map Prod.fst).take (i+1))=wi2 at *
  rcases Nat.eq_zero_or_pos i with h0|h0
  ·subst h0
   refine Wc_draw hmix [0,0,3,7,15,31,63,63,255,511,63,1087,4095,8191,16383,32767,65535,131071,262143,262143,1048575,2097151,262143,262143,8650751,29622271,63176703,134217727,268435455,536870911,1073741823,2147483647,2147483647,2147483647,15032385535,32212254719,68719476735,137438953471,274877906943,2147483647,551903297535,1651414925311,4398046511103,8796093022207] [0,1,2,3,4,5,6,7,8,9,10,11,12,13,14,15,16,17,18,19,20,21,22,23,24,25,26,27,28,29,30,31,32,33,34,35,36,37,38,39,40,41,42,43] none [] (by kernel_rfl) (by kernel_rfl) ?_
   refine z_m ?_;refine z_m ?_;refine Wp_pure rfl rfl rfl rfl rfl (fun _=>A_ix (k:=0) Und.h Tsz.h rfl rfl) ?_;refine z_l ?_;refine Wp_pure rfl rfl rfl rfl rfl (fun _=>A_ff (show ¬((x:Nat):Int)<0 by omega) (A_lss rfl rfl)) ?_;refine z_m ?_;refine g_m ?_;refine g_m ?_
   first|refine Wp_off rfl rfl rfl rfl ?_|refine Wp_pure rfl rfl rfl rfl rfl (fun _=>A_ix (k:=0) Und.h Tsz.h rfl rfl) ?_
   refine g_l ?_;refine g_m ?_;refine g_c ?_
   first|refine Wp_off rfl rfl rfl rfl ?_|refine Wp_pure rfl rfl rfl rfl rfl (fun _=>A_ff (show ¬(l.length:Int)<=((x:Nat):Int) by omega) (A_geq rfl rfl)) ?_
   refine z_p ?_;refine z_m ?_;refine g_m ?_
   first|refine Wp_off rfl rfl rfl rfl ?_|refine Wp_pure rfl rfl rfl rfl rfl (fun _=>A_ff (show ¬(0:Int)<((0:Nat):Int) by decide) (A_gtr rfl rfl)) ?_
   refine g_m ?_;refine g_m ?_;refine g_m ?_;refine z_o ?_;refine g_l ?_;refine g_m ?_;refine g_m ?_;refine z_o ?_;refine z_o ?_;refine g_l ?_;refine z_o ?_;refine g_p ?_;refine z_p ?_;refine z_m ?_;refine g_m ?_;refine g_m ?_;refine g_m ?_
   first|refine Wp_off rfl rfl rfl rfl ?_|refine Wp_pure rfl rfl rfl rfl rfl (fun _=>A_ix (k:=0) Und.h Tsz.h rfl rfl) ?_
   refine g_l ?_
   first|refine Wp_off rfl rfl rfl rfl ?_|refine Wp_pure rfl rfl rfl rfl rfl (fun _=>A_ix (k:=x) Und.h Tsz.h rfl rfl) ?_
   refine g_f ?_;refine g_l ?_;refine g_f ?_;refine g_f ?_;refine g_l ?_
   first|refine Wp_off rfl rfl rfl rfl ?_|refine Wp_pure rfl rfl rfl rfl rfl (fun _=>A_ff (show ¬¬s.venue=v from fun q=>q hc3) (A_neq rfl rfl)) ?_
   refine z_p ?_
   refine Wp_end (Stl_nil rfl) nb' ?_
   refine zy ?_
   refine Wc_draw hmix [0,0,0,0,12,28,62,126,254,511,0,0,0,0,12288,28672,63488,129024,260096,523264,1023,2097151] [0,1,2,3,4,5,6,7,8,10,11,12,13,14,15,16,17,18,19] (some 9) [([],(some 20)),([],(some 21)),([],none)] (by kernel_rfl) (by kernel_rfl) ?_
   refine z_m ?_;refine z_m ?_;refine z_m ?_;refine z_m ?_;refine Wp_pure rfl rfl rfl rfl rfl (fun _=>A_ix (k:=0) Und.h Tsz.h rfl rfl) ?_;refine z_l ?_;refine Wp_pure rfl rfl rfl rfl rfl (fun _=>A_ix (k:=x) Und.h Tsz.h rfl rfl) ?_;refine z_r ?_
   refine Wp_new (nk:=.sl _ _) rfl rfl rfl rfl rfl (fun _ _ hs=>N_bs hs Und.h Tsz.h Zr.h rfl rfl rfl rfl rfl) ?_
   refine z_m ?_;refine z_m ?_;refine z_m ?_;refine z_m ?_;refine Wp_pure rfl rfl rfl rfl rfl (fun _=>A_ix (k:=0) Und.h Tsz.h rfl rfl) ?_;refine z_l ?_;refine Wp_pure rfl rfl rfl rfl rfl (fun _=>A_ix (k:=x) Und.h Tsz.h rfl rfl) ?_;refine z_f ?_;refine z_l ?_;refine Wp_pure rfl rfl rfl rfl rfl (fun _=>A_add rfl rfl (by omega) (by omega)) ?_
   refine Wp_eff (h1:=(Heap.add h6 _)) [0,1,2,3,4,5,6,7,8] (by kernel_rfl) rfl (Stl_nil rfl) rfl rfl rfl (W1_wfK (W1_appendF (by':=48) (sz:=6) (k:=1) (n:=0) (l:=shVs s) rfl hw5 (hw6.add _) (hE6.trans hEa) rfl rfl rfl rfl Und.h inferInstance rfl rfl (hF6.ext hEa) ((FreshSl.lit (h0:=h5) (n:=1) (sz:=6) Heap.get_add_same rfl hn56).src (dd:=.slice 42) Und.h (by intro k;simp)) rfl rfl (by omega) (by omega) (fun v10 h10 hF10 hE10 _ _ _ hw10=>?_)))
   have hrow10:=(hE.trans hE10).row hrow1
   have cA10:=hE10.cell hcA
   have cw10:=cell_of_row (k:=5) hrow10 rfl
   refine Wp_eff (h1:=h10) [0,1,2,3,4,5,6,7,8,9] (by kernel_rfl) rfl (by refine Stl_pure (i:=19) rfl rfl rfl rfl rfl (fun _=>A_add rfl rfl (by omega) (by omega)) rfl ?_;refine t_l 18 ?_;refine t_f 17 ?_;refine Stl_pure (i:=16) rfl rfl rfl rfl rfl (fun _=>A_ix (k:=x) Und.h Tsz.h rfl rfl) rfl ?_;refine t_l 15 ?_;refine Stl_pure (i:=14) rfl rfl rfl rfl rfl (fun _=>A_ix (k:=0) Und.h Tsz.h rfl rfl) rfl ?_;refine t_m 13 ?_;refine t_m 12 ?_;refine t_m 11 ?_;refine t_m 10 ?_;exact Stl_nil rfl) rfl rfl rfl (W1_op rfl rfl (A_assign rfl) ?_)
   refine Wp_eff (h1:=h10) [0,1,2,3,4,5,6,7,8,9,10,11,12,13,14,15,16,17,18,19,20] (by kernel_rfl) rfl (by refine Stl_pure (i:=19) rfl rfl rfl rfl rfl (fun _=>A_add rfl rfl (by omega) (by omega)) rfl ?_;refine t_l 18 ?_;refine t_f 17 ?_;refine Stl_pure (i:=16) rfl rfl rfl rfl rfl (fun _=>A_ix (k:=x) Und.h Tsz.h rfl rfl) rfl ?_;refine t_l 15 ?_;refine Stl_pure (i:=14) rfl rfl rfl rfl rfl (fun _=>A_ix (k:=0) Und.h Tsz.h rfl rfl) rfl ?_;refine t_m 13 ?_;refine t_m 12 ?_;refine t_m 11 ?_;refine t_m 10 ?_;exact Stl_nil rfl) rfl rfl rfl (W1_op rfl rfl (A_assign rfl) ?_)
   refine Wp_end (h1:=h10) (Stl_nil rfl) rfl ?_
   refine zy ?_
   exact⟨(0+1,v10),(by show CH.length-(0+1)<CH.length-0;omega),rfl,hi',hE10,(by simp only[hsn];exact hF10),(by simp only[hwq2];omega),rfl,rfl,rfl,rfl,rfl,rfl,(by simp only[hwq2,hwt];rfl),rfl,trivial⟩
  obtain⟨p,hp,b3,o3,oa3,e3,hcP⟩:=hpv h0
  cases e3
  have cP6:=hE6.cell hcP
  obtain⟨i,rfl⟩:∃j,i=j+1:=⟨i-1,by omega⟩
  rw[show i+1-1=i from rfl] at cP6
  refine Wc_draw hmix [0,0,3,7,15,31,63,63,255,511,63,1087,4095,8191,16383,32767,65535,131071,262143,262143,1048575,2097151,262143,262143,8650751,29622271,63176703,134217727,268435455,536870911,1073741823,2147483647,2147483647,2147483647,15032385535,32212254719,68719476735,137438953471,274877906943,2147483647,551903297535,1651414925311,4398046511103,8796093022207] [0,1,2,3,4,5,6,7,8,9,10,11,12,13,14,15,16,17,18,19,20,21,22,23,24,25,26,27,28,29,30,31,32,33,34,35,36,37,38,39,40,41,42,43] none [] (by kernel_rfl) (by kernel_rfl) ?_
  refine z_m ?_;refine z_m ?_;refine Wp_pure rfl rfl rfl rfl rfl (fun _=>A_ix (k:=i+1) Und.h Tsz.h rfl rfl) ?_;refine z_l ?_;refine Wp_pure rfl rfl rfl rfl rfl (fun _=>A_ff (show ¬((x:Nat):Int)<0 by omega) (A_lss rfl rfl)) ?_;refine z_m ?_;refine g_m ?_;refine g_m ?_
  first|refine Wp_off rfl rfl rfl rfl ?_|refine Wp_pure rfl rfl rfl rfl rfl (fun _=>A_ix (k:=i+1) Und.h Tsz.h rfl rfl) ?_
  refine g_l ?_;refine g_m ?_;refine g_c ?_
  first|refine Wp_off rfl rfl rfl rfl ?_|refine Wp_pure rfl rfl rfl rfl rfl (fun _=>A_ff (show ¬(l.length:Int)<=((x:Nat):Int) by omega) (A_geq rfl rfl)) ?_
  refine z_p ?_;refine z_m ?_;refine g_m ?_
  first|refine Wp_off rfl rfl rfl rfl ?_|refine Wp_pure rfl rfl rfl rfl rfl (fun _=>A_tt (show (0:Int)<((i+1:Nat):Int) by omega) (A_gtr rfl rfl)) ?_
  refine g_m ?_;refine g_m ?_;refine g_m ?_
  first|refine Wp_off rfl rfl rfl rfl ?_|refine Wp_pure rfl rfl rfl rfl rfl (fun _=>A_ix (k:=i+1) Und.h Tsz.h rfl rfl) ?_
  refine g_l ?_;refine g_m ?_;refine g_m ?_
  first|refine Wp_off rfl rfl rfl rfl ?_|refine Wp_pure rfl rfl rfl rfl rfl (fun _=>A_sub rfl rfl (by omega) (by omega)) ?_
  first|refine Wp_off rfl rfl rfl rfl ?_|refine Wp_pure rfl rfl rfl rfl rfl (fun _=>A_indexAddr (k:=i) Und.h Tsz.h rfl rfl (by omega) (by omega)) ?_
  refine g_l ?_
  first|refine Wp_off rfl rfl rfl rfl ?_|refine Wp_pure rfl rfl rfl rfl rfl (fun _=>A_ff (show ¬((x:Nat):Int)<=((p:Nat):Int) by omega) (A_leq rfl rfl)) ?_
  refine g_p ?_;refine z_p ?_;refine z_m ?_;refine g_m ?_;refine g_m ?_;refine g_m ?_
  first|refine Wp_off rfl rfl rfl rfl ?_|refine Wp_pure rfl rfl rfl rfl rfl (fun _=>A_ix (k:=i+1) Und.h Tsz.h rfl rfl) ?_
  refine g_l ?_
  first|refine Wp_off rfl rfl rfl rfl ?_|refine Wp_pure rfl rfl rfl rfl rfl (fun _=>A_ix (k:=x) Und.h Tsz.h rfl rfl) ?_
  refine g_f ?_;refine g_l ?_;refine g_f ?_;refine g_f ?_;refine g_l ?_
  first|refine Wp_off rfl rfl rfl rfl ?_|refine Wp_pure rfl rfl rfl rfl rfl (fun _=>A_ff (show ¬¬s.venue=v from fun q=>q hc3) (A_neq rfl rfl)) ?_
  refine z_p ?_
  refine Wp_end (Stl_nil rfl) nb' ?_
  refine zy ?_
  refine Wc_draw hmix [0,0,0,0,12,28,62,126,254,511,0,0,0,0,12288,28672,63488,129024,260096,523264,1023,2097151] [0,1,2,3,4,5,6,7,8,10,11,12,13,14,15,16,17,18,19] (some 9) [([],(some 20)),([],(some 21)),([],none)] (by kernel_rfl) (by kernel_rfl) ?_
  refine z_m ?_;refine z_m ?_;refine z_m ?_;refine z_m ?_;refine Wp_pure rfl rfl rfl rfl rfl (fun _=>A_ix (k:=i+1) Und.h Tsz.h rfl rfl) ?_;refine z_l ?_;refine Wp_pure rfl rfl rfl rfl rfl (fun _=>A_ix (k:=x) Und.h Tsz.h rfl rfl) ?_;refine z_r ?_
  refine Wp_new (nk:=.sl _ _) rfl rfl rfl rfl rfl (fun _ _ hs=>N_bs hs Und.h Tsz.h Zr.h rfl rfl rfl rfl rfl) ?_
  refine z_m ?_;refine z_m ?_;refine z_m ?_;refine z_m ?_;refine Wp_pure rfl rfl rfl rfl rfl (fun _=>A_ix (k:=i+1) Und.h Tsz.h rfl rfl) ?_;refine z_l ?_;refine Wp_pure rfl rfl rfl rfl rfl (fun _=>A_ix (k:=x) Und.h Tsz.h rfl rfl) ?_;refine z_f ?_;refine z_l ?_;refine Wp_pure rfl rfl rfl rfl rfl (fun _=>A_add rfl rfl (by omega) (by omega)) ?_
  refine Wp_eff (h1:=(Heap.add h6 _)) [0,1,2,3,4,5,6,7,8] (by kernel_rfl) rfl (Stl_nil rfl) rfl rfl rfl (W1_wfK (W1_appendF (by':=48) (sz:=6) (k:=1) (n:=i+1) (l:=shVs s) rfl hw5 (hw6.add _) (hE6.trans hEa) rfl rfl rfl rfl Und.h inferInstance rfl rfl (hF6.ext hEa) ((FreshSl.lit (h0:=h5) (n:=1) (sz:=6) Heap.get_add_same rfl hn56).src (dd:=.slice 42) Und.h (by intro k;simp)) rfl rfl (by omega) (by omega) (fun v10 h10 hF10 hE10 _ _ _ hw10=>?_)))
  have hrow10:=(hE.trans hE10).row hrow1
  have cA10:=hE10.cell hcA
  have cw10:=cell_of_row (k:=5) hrow10 rfl
  refine Wp_eff (h1:=h10) [0,1,2,3,4,5,6,7,8,9] (by kernel_rfl) rfl (by refine Stl_pure (i:=19) rfl rfl rfl rfl rfl (fun _=>A_add rfl rfl (by omega) (by omega)) rfl ?_;refine t_l 18 ?_;refine t_f 17 ?_;refine Stl_pure (i:=16) rfl rfl rfl rfl rfl (fun _=>A_ix (k:=x) Und.h Tsz.h rfl rfl) rfl ?_;refine t_l 15 ?_;refine Stl_pure (i:=14) rfl rfl rfl rfl rfl (fun _=>A_ix (k:=i+1) Und.h Tsz.h rfl rfl) rfl ?_;refine t_m 13 ?_;refine t_m 12 ?_;refine t_m 11 ?_;refine t_m 10 ?_;exact Stl_nil rfl) rfl rfl rfl (W1_op rfl rfl (A_assign rfl) ?_)
  refine Wp_eff (h1:=h10) [0,1,2,3,4,5,6,7,8,9,10,11,12,13,14,15,16,17,18,19,20] (by kernel_rfl) rfl (by refine Stl_pure (i:=19) rfl rfl rfl rfl rfl (fun _=>A_add rfl rfl (by omega) (by omega)) rfl ?_;refine t_l 18 ?_;refine t_f 17 ?_;refine Stl_pure (i:=16) rfl rfl rfl rfl rfl (fun _=>A_ix (k:=x) Und.h Tsz.h rfl rfl) rfl ?_;refine t_l 15 ?_;refine Stl_pure (i:=14) rfl rfl rfl rfl rfl (fun _=>A_ix (k:=i+1) Und.h Tsz.h rfl rfl) rfl ?_;refine t_m 13 ?_;refine t_m 12 ?_;refine t_m 11 ?_;refine t_m 10 ?_;exact Stl_nil rfl) rfl rfl rfl (W1_op rfl rfl (A_assign rfl) ?_)
  refine Wp_end (h1:=h10) (Stl_nil rfl) rfl ?_
  refine zy ?_
  exact⟨(i+1+1,v10),(by show CH.length-(i+1+1)<CH.length-(i+1);omega),rfl,hi',hE10,(by simp only[hsn];exact hF10),(by simp only[hwq2];omega),rfl,rfl,rfl,rfl,rfl,rfl,(by simp only[hwq2,hwt];rfl),rfl,trivial⟩
 rintro _ m' ds' h6 ⟨rfl,rfl,hE6,vo,hFo,hall⟩
 show Wc _ _ _ _ _ _ _
 refine Wc.le ?_ (Le.kn hall)
 clear hall
 rw[hCw]
 obtain⟨aO,cO,rfl,hOw⟩:=shR_at hFo
 replace hE:=hE.trans hE6
 replace hg1:=hE6.get hg1
 replace hg2:=hE6.get hg2
 clear hE6 hAr hFo hw5 hn5
 clear h5
 have hOm:∀s∈CH.map Prod.fst,s∈l:=fun s hs=>by
  obtain⟨c,hc,rfl⟩:=List.mem_map.1 hs
  obtain⟨h1,h2,-⟩:=hCF c hc
  obtain⟨h3,h4⟩:=List.getElem?_eq_some_iff.1 h2
  rw[<-h4];exact List.getElem_mem h3
 have hOl:(CH.map Prod.fst).length<=40:=by rw[List.length_map];exact hCl
 have hOls:=listed_of he1 hOl fun s hs=>hsh s (hOm s hs)
 generalize CH.map Prod.fst=OW at *
 refine zy ?_
 refine Wo_callr rfl rfl rfl rfl rfl Bod.h rfl rfl (scPlay_sv (ht0.ext hE) hT hOw (fun s hs=>hlF s (hOm s hs)) (show OW.length<9223372036854775808 by omega)) ?_
 rintro _ h7 ⟨hE7,⟨hbad,_⟩|⟨_,vk,vw,rfl,hK,-⟩⟩
 ·exact absurd hOls hbad
 rw[hCp] at hK
 obtain⟨aK,cK,rfl,hKr⟩:=shRows_at hK
 replace hE:=hE.trans hE7
 replace hg1:=hE7.get hg1
 replace hg2:=hE7.get hg2
 replace hOw:=RowsAt.ext (R:=ScSR) (fun x _=>x) hOw hE7
 clear hE7 hK
 clear h6
 have hOL:Len OW:=show OW.length<9223372036854775808 by omega
 refine zy ?_
 refine Wo_do rfl rfl rfl rfl (A_ff (show ¬¬(0:Int)=0 from fun q=>q rfl) (A_neq rfl rfl)) ?_
 refine zy ?_
 refine Wo_callV rfl rfl rfl rfl rfl Bod.h rfl rfl (refShows_sv hKr hOw hOL hOL) ?_
 rw[decide_eq_true rfl]
 refine zy ?_
 refine Wo_do rfl rfl rfl rfl (A_ff (show ¬¬W=W from fun q=>q rfl) (A_neq rfl rfl)) ?_
 refine Wo_wf fun hw7=>?_
 have hn7:=hE.2.1
 refine zy ?_
 refine Wc.mono (Q:=fun z m' ds' h'=>z=.exit 2/\ds'=[]/\Ext h7 h'/\∃vo,∃K:List CI,(∀c∈K,c.1∈l/\c.1.venue=v)/\K.length<=40/\FreshSl h7 h' vo 42 6 (shR K) K.length/\AllK m' [(1,.slice al l.length cl),(3,.pointer (some ⟨b1,0,none⟩)),(5,.pointer (some ⟨b2,0,none⟩)),(8,i64 W),(21,vo)])
  (Wc_loop (fun (s:Nat×List CI×Value) m ds h'=>ds=[]/\(s.1<=40/\s.2.1.length<=s.1)/\Ext h7 h'/\(∀c∈s.2.1,c.1∈l/\c.1.venue=v)/\FreshSl h7 h' s.2.2 42 6 (shR s.2.1) s.2.1.length/\AllK m [(1,.slice al l.length cl),(3,.pointer (some ⟨b1,0,none⟩)),(5,.pointer (some ⟨b2,0,none⟩)),(8,i64 W),(21,s.2.2),(22,i64 s.1)]) (fun s=>40-s.1) (0,[],.slice none 0 0) ?_ ?_) ?_
 ·exact⟨rfl,⟨by decide,Nat.le_refl _⟩,Ext.refl _,(fun _ hc=>(List.not_mem_nil hc).elim),FreshSl.nil _ _ _ _,rfl,rfl,rfl,rfl,rfl,rfl,trivial⟩
 ·rintro⟨i,K,vo⟩ m ds h8 ⟨rfl,⟨hi,hKi⟩,hE8,hKm,hF8,hall⟩
  simp only at hi hKi hKm hF8 hall
  refine Wc.le ?_ (Le.kn hall)
  clear hall
  have k1:=hE8.get hg1
  have k2:=hE8.get hg2
  refine zy ?_
  refine Wo_dec rfl rfl rfl rfl (A_lss rfl rfl) (fun c1=>?_) (fun c1=>?_)
  rotate_left
  ·refine zy ?_
   exact⟨rfl,rfl,hE8,vo,K,hKm,by omega,hF8,rfl,rfl,rfl,rfl,rfl,trivial⟩
  refine zy ?_
  refine Wo_dec rfl rfl rfl rfl (A_lss rfl rfl) (fun c2=>?_) (fun c2=>?_)
  rotate_left
  ·refine zy ?_
   exact⟨rfl,rfl,hE8,vo,K,hKm,by omega,hF8,rfl,rfl,rfl,rfl,rfl,trivial⟩
  refine zy ?_
  refine Wo_dec rfl rfl rfl rfl (A_gtr rfl rfl) (fun c3=>?_) (fun c3=>?_)
  rotate_left
  ·refine zy ?_
   exact⟨rfl,rfl,hE8,vo,K,hKm,by omega,hF8,rfl,rfl,rfl,rfl,rfl,trivial⟩
  have hio:i<ord.length:=by omega
  obtain⟨bO,oO,oaO,rfl,rowO,hrowO,hrO⟩:=hOr i hio
  have hz:=hOF _ (List.getElem_mem hio)
  generalize ord[i]=z at *
  obtain rfl:=hrO
  have hrowO8:=(hE.trans hE8).row hrowO
  have hcO:=cell_of_row (k:=0) hrowO8 rfl
  rw[Nat.add_zero] at hcO
  have hwrap:IntKind.i64.wrap z=z:=IntWalk.i64_in _ (by omega)
  have hn0:0<=z.tmod (l.length:Int):=Int.tmod_nonneg _ hz.1
  have hn1:z.tmod (l.length:Int)<(l.length:Int):=Int.tmod_lt_of_pos _ (by omega)
  obtain⟨n,hn⟩:∃n:Nat,z.tmod (l.length:Int)=n:=⟨_,(Int.toNat_of_nonneg hn0).symm⟩
  have hnl:n<l.length:=by omega
  obtain⟨bl,ol,oal,rfl,row1,hrow1,hr1⟩:=hl n hnl
  have hsm:l[n]∈l:=List.getElem_mem hnl
  generalize l[n]=s at *
  obtain rfl:=hr1
  have hrow8:=(hE.trans hE8).row hrow1
  refine zy ?_
  refine Wo_do rfl rfl rfl rfl (A_ix Und.h Tsz.h rfl rfl) ?_
  refine zy ?_
  refine Wo_do rfl rfl rfl rfl (A_convV ⟨_,Und.h⟩ Und.h rfl hwrap) ?_
  refine zy ?_
  refine Wo_do rfl rfl rfl rfl (A_rem rfl rfl (by omega)) ?_
  rw[hn]
  refine zy ?_
  refine Wo_do rfl rfl rfl rfl (A_ix Und.h Tsz.h rfl rfl) ?_
  refine zy ?_
  refine Wo_allocStore rfl rfl Zr.h Tsz.h rfl (fun _=>rfl) rfl rfl rfl fun h9 hE9 hW9 hg9 hn9=>?_
  have hE89:=hE8.trans hE9
  have k29:=hE9.get k2
  refine zy ?_
  refine Wo_dec rfl rfl rfl rfl (A_eql rfl rfl) (fun hvv=>?_) (fun hvv=>?_)
  ·have hKl':(K++[(s,0)]).length=K.length+1:=by simp
   refine zy ?_
   refine Wo_bs rfl rfl Und.h Tsz.h Zr.h rfl rfl rfl rfl rfl fun h10 hE10 hW10 hg10 hn10=>?_
   refine zy ?_
   refine Wo_appendF (k:=1) (l:=shVs s) hw7 (hE89.trans hE10) rfl rfl rfl rfl rfl Und.h inferInstance rfl rfl ((hF8.ext hE9).ext hE10) (asrc_row Und.h (by intro k;simp) (rowAt_cells hg10 rfl)) rfl rfl (by omega) (by omega) fun v11 h11 hF11 hE11 _ _ _=>?_
   rw[<-hKl',<-shR_snoc K (s,0)] at hF11
   refine zy ?_
   refine⟨(i+1,K++[(s,0)],v11),(by show 40-(i+1)<40-i;omega),rfl,⟨by show i+1<=40;omega,by show (K++[(s,0)]).length<=i+1;omega⟩,hE11,fun c hc=>?_,hF11,rfl,rfl,rfl,rfl,rfl,rfl,trivial⟩
   rcases List.mem_append.1 hc with g|g
   ·exact hKm c g
   ·rw[List.mem_singleton.1 g];exact⟨hsm,hvv⟩
  ·refine zy ?_
   exact⟨(i+1,K,vo),(by show 40-(i+1)<40-i;omega),rfl,⟨by show i+1<=40;omega,by show K.length<=i+1;omega⟩,hE89,hKm,hF8.ext hE9,rfl,rfl,rfl,rfl,rfl,rfl,trivial⟩
 rintro _ m' ds' h8 ⟨rfl,rfl,hE8,vo,K,hKm,hK40,hF8,hall⟩
 show Wc _ _ _ _ _ _ _
 refine Wc.le ?_ (Le.kn hall)
 clear hall
 obtain⟨aX,cX,rfl,hXr⟩:=shR_at hF8
 replace hE:=hE.trans hE8
 replace hg1:=hE8.get hg1
 replace hg2:=hE8.get hg2
 clear hE8 hF8 hOw hKr hw7 hn7
 clear h7
 have hXm:∀s∈K.map Prod.fst,s∈l/\s.venue=v:=fun s hs=>by
  obtain⟨c,hc,rfl⟩:=List.mem_map.1 hs
  exact hKm c hc
 have hXl:(K.map Prod.fst).length<=40:=by rw[List.length_map];exact hK40
 generalize K.map Prod.fst=X at *
 have hXls:=listed_of he1 hXl fun s hs=>hsh s (hXm s hs).1
 have hXw:=hoth hXm
 refine zy ?_
 refine Wo_callr rfl rfl rfl rfl rfl Bod.h rfl rfl (scPlay_sv (ht0.ext hE) hT hXr (fun s hs=>hlF s (hXm s hs).1) (show X.length<9223372036854775808 by omega)) ?_
 rintro _ h9 ⟨hE9,⟨hbad,_⟩|⟨_,vk,vw,rfl,hKK,-⟩⟩
 ·exact absurd hXls hbad
 obtain⟨aZ,cZ,rfl,hZr⟩:=shRows_at hKK
 replace hE:=hE.trans hE9
 replace hg1:=hE9.get hg1
 replace hg2:=hE9.get hg2
 have hZl:(playS t X).1.length<=40:=Nat.le_trans (play_len t X).2.1 hXl
 have hZw:∀s∈(playS t X).1,0<=s.worth/\s.worth<=1000000:=fun s hs=>by
  obtain⟨-,-,-,-,w1,w2⟩:=shown_ok (hsh s (hXm s ((play_len t X).2.2 s hs).1).1)
  exact⟨w1,w2⟩
 clear hE9 hKK hXr
 clear h8
 generalize (playS t X).1=Z at *
 refine zy ?_
 refine Wo_do rfl rfl rfl rfl (A_ff (show ¬¬(0:Int)=0 from fun q=>q rfl) (A_neq rfl rfl)) ?_
 refine zy ?_
 refine Wc.mono (Q:=fun z m' ds' h'=>z=.exit 4/\ds'=[]/\h9=h'/\AllK m' [(1,.slice al l.length cl),(3,.pointer (some ⟨b1,0,none⟩)),(5,.pointer (some ⟨b2,0,none⟩)),(8,i64 W),(24,i64 (worthL Z))])
  (Wc_loop (fun (k:Nat) m ds h'=>ds=[]/\k<=Z.length/\h9=h'/\(0<=worthL (Z.take k)/\worthL (Z.take k)<=1000000*k)/\AllK m [(1,.slice al l.length cl),(3,.pointer (some ⟨b1,0,none⟩)),(5,.pointer (some ⟨b2,0,none⟩)),(8,i64 W),(19,.slice aZ Z.length cZ),(24,i64 (worthL (Z.take k))),(25,i64 k)]) (fun k=>Z.length-k) 0 ?_ ?_) ?_
 ·exact⟨rfl,Nat.zero_le _,rfl,⟨by show (0:Int)<=0;decide,by show (0:Int)<=1000000*((0:Nat):Int);decide⟩,rfl,rfl,rfl,rfl,rfl,rfl,rfl,trivial⟩
 ·rintro k m ds _ ⟨rfl,hk,rfl,⟨q0,q1⟩,hall⟩
  refine Wc.le ?_ (Le.kn hall)
  clear hall
  refine zy ?_
  refine Wo_dec rfl rfl rfl rfl (A_lss rfl rfl) (fun hkl=>?_) (fun hkl=>?_)
  rotate_left
  ·have:k=Z.length:=by omega
   subst this
   rw[List.take_length]
   refine zy ?_
   exact⟨rfl,rfl,rfl,rfl,rfl,rfl,rfl,rfl,trivial⟩
  have hk':k<Z.length:=by omega
  have hwt:=worthL_take hk'
  have hzw:=hZw _ (List.getElem_mem hk')
  obtain⟨bz,oz,oaz,rfl,rowz,hrowz,hrz⟩:=hZr k hk'
  generalize Z[k]=s at *
  obtain rfl:=hrz
  generalize worthL (Z.take k)=wk at *
  generalize hwk2:worthL (Z.take (k+1))=wk2 at *
  have cw:=cell_of_row (k:=5) hrowz rfl
  refine zy ?_
  refine Wo_do rfl rfl rfl rfl (A_ix Und.h Tsz.h rfl rfl) ?_
  refine zy ?_
  exact⟨k+1,(by show Z.length-(k+1)<Z.length-k;omega),rfl,hk',rfl,(by rw[hwk2];omega),rfl,rfl,rfl,rfl,rfl,(by rw[hwk2,hwt];rfl),rfl,trivial⟩
 rintro _ m' ds' _ ⟨rfl,rfl,rfl,hall⟩
 show Wc _ _ _ _ _ _ _
 refine Wc.le ?_ (Le.kn hall)
 clear hall
 refine zy ?_
 refine Wo_callE rfl rfl rfl rfl rfl Bod.h rfl rfl (hcov hE (RowsAt.ext (R:=PrR) (fun x _=>x) hQ hE) hLQ) fun h10 hE10=>?_
 replace hE:=hE.trans hE10
 unfold covV
 generalize coverS t v l Q=R at *
 obtain⟨bd,at2,e2⟩:=R
 simp only at hany
 refine zy ?_
 refine Wo_do rfl rfl rfl rfl (A_tt (show worthL Z<=W from hXw) (A_leq rfl rfl)) ?_
 refine zy ?_
 refine Wo_dec rfl rfl rfl rfl (A_neq rfl rfl) (fun q1=>?_) (fun q1=>?_)
 ·refine zy ?_
  refine Wo_callV rfl rfl rfl rfl rfl Bod.h rfl rfl (awake_sv (hTb.ext hE)) ?_
  refine zy ?_
  exact Wc_ret (Lv_ret rfl ⟨rfl,hE⟩)
 replace q1:=Decidable.not_not.1 q1
 refine zy ?_
 refine Wo_dec rfl rfl rfl rfl (A_neq rfl rfl) (fun q2=>?_) (fun q2=>?_)
 ·refine zy ?_
  refine Wo_callV rfl rfl rfl rfl rfl Bod.h rfl rfl (awake_sv (hTb.ext hE)) ?_
  refine zy ?_
  exact Wc_ret (Lv_ret rfl ⟨rfl,hE⟩)
 replace q2:=Decidable.not_not.1 q2
 have hge:=hany q1 q2
 refine zy ?_
 refine Wo_do rfl rfl rfl rfl (A_tt (show W<=bd from hge) (A_geq rfl rfl)) ?_
 refine zy ?_
 refine Wo_callV rfl rfl rfl rfl rfl Bod.h rfl rfl (awake_sv (hTb.ext hE)) ?_
 refine zy ?_
 exact Wc_ret (Lv_ret rfl ⟨rfl,hE⟩)
end Go.Dw
