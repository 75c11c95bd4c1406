/- EU: contracts of decay: what is known of all mornings. -/
import Derived.Test.YtcjmpdpgfmjcgaaGreatDoorMG2
import Derived.Test.YtcjmpdpgfmjcgaaGreatDoorMG21
import Derived.Test.YtcjmpdpgfmjcgaaGreatDoorMG20
import Derived.Test.YtcjmpdpgfmjcgaaGreatDoorMG22
import Derived.Test.YtcjmpdpgfmjcgaaGreatDoorMG23
namespace Go.Dw
open Go Go.Dx Go.Proofs
set_option maxRecDepth 100000
theorem Own.pick {h0 h:Heap}{l:List It}{x:It}(hO:Own h0 h l)(n:Nat)(e:l[n]?=some x):Own h0 h (x::l.eraseIdx n):=by
 obtain⟨hn,rfl⟩:=List.getElem?_eq_some_iff.1 e
 refine hO.perm ?_
 have h1:l=l.take n++l[n]::l.drop (n+1):=by rw[List.getElem_cons_drop,List.take_append_drop]
 rw[List.eraseIdx_eq_take_drop_succ]
 exact (List.Perm.of_eq h1).trans List.perm_middle
theorem Own.unpick {h0 h:Heap}{l:List It}{x:It}(n:Nat)(hn:n<l.length)(hO:Own h0 h (x::l.eraseIdx n)):Own h0 h (l.set n x):=by
 refine hO.perm ?_
 rw[List.eraseIdx_eq_take_drop_succ,List.set_eq_take_append_cons_drop,if_pos hn]
 exact List.perm_middle.symm
theorem Own.two {h h':Heap}{a b:Nat}{o u:AO}(ha:h'.get a=some o)(hb:h'.get b=some u)(hna:h.nx<=a)(hnb:h.nx<=b)(hab:a≠b):Own h h' [loI a o,loI b u]:=by
 refine⟨fun x hx=>?_,fun x hx c hc=>?_,List.pairwise_cons.2 ⟨fun y hy c hc hyc=>?_,List.pairwise_cons.2 ⟨(fun _ hy=>nomatch hy),.nil⟩⟩⟩
 ·simp only[List.mem_cons,List.not_mem_nil,or_false] at hx
  rcases hx with rfl|rfl
  ·exact ha
  ·exact hb
 ·simp only[List.mem_cons,List.not_mem_nil,or_false] at hx
  rcases hx with rfl|rfl
  ·have hc:c=a:=hc
   rw[hc];exact hna
  ·have hc:c=b:=hc
   rw[hc];exact hnb
 ·rw[List.mem_singleton.1 hy] at hyc
  exact hab ((show c=a from hc).symm.trans hyc)
theorem sl_shape {h0 h:Heap}{v:Value}{el:TypeId}{sz n:Nat}{cs:List Value}(hF:FreshSl h0 h v el sz cs n)(hn:0<n):∃b sp,v=.slice (some ⟨b,0,sp⟩) n n:=by
 obtain⟨b,sp,_,e,_⟩:=hF.blk hn
 exact⟨b,sp,e⟩
theorem set_two:∀(l:List Value)(o:Nat)(x y:Value),o+1<l.length->(l.set o x).set (o+1) y=l.take o++([x,y]++l.drop (o+2))
 | [],_,_,_,h=>absurd h (Nat.not_lt_zero _)
 | [_],_,_,_,h=>by simp at h
 | _::_::_,0,_,_,_=>rfl
 | a::b::l,o+1,x,y,h=>by
  have:=set_two (b::l) o x y (by simpa using h)
  simp only[List.set_cons_succ,List.take_succ_cons,List.drop_succ_cons,List.cons_append]
  rw[this];rfl
theorem lay_sp {n i:Nat}{f:Nat->Sp}(hi:i<n)(x y:Int):lay (cellsF n f) (0+i*2) [i64 x,i64 y]=some (cellsF n (updS f i ⟨x,y⟩)):=by
 have hl:=cellsF_len n f
 rw[lay_some (by rw[hl];simp;omega)]
 congr 1
 have h1:=set_two (cellsF n f) (i*2) (i64 x) (i64 y) (by omega)
 have h2:=cellsF_lo (f:=f) hi x
 rw[Nat.add_zero] at h2
 rw[h2,cellsF_hi hi,updS_at,upd_upd] at h1
 rw[h1,Nat.zero_add];rfl
theorem cellsF_row {h:Heap}{b n i:Nat}{f:Nat->Sp}{el:TypeId}{op:Bool}(hg:h.get b=some (.cells (cellsF n f) el op))(hi:i<n):rowAt h b (0+i*2) 2=some [i64 (f i).lo,i64 (f i).hi]:=by
 have hc:cut (cellsF n f) (i*2) 2=some (spC (f i)):=by
  have:=cut_flat (f:=fun k=>spC (f k)) (k:=2) (P:=List.range n) (i:=i) (by simpa using hi) fun _ _=>rfl
  rw[List.getElem_range] at this
  exact this
 exact rowAt_cells hg (by rw[Nat.zero_add];exact hc)
theorem bRows {h0 h:Heap}{v:Value}{B:List (Nat×Int)}(hF:FreshSl h0 h v 89 2 (bCells B) B.length):∃a c,v=.slice a B.length c/\RowsAt 2 (fun _ row (x:Nat×Int)=>row=[i64 (x.1:Nat),i64 x.2]) h a B:=by
 rcases hF with ⟨rfl,_,h0⟩|⟨b,sp,op,rfl,hg,_⟩
 ·rw[h0]
  exact⟨none,0,rfl,fun i hi=>absurd hi (by omega)⟩
 ·refine⟨some ⟨b,0,sp⟩,B.length,rfl,fun i hi=>⟨b,0,sp,rfl,_,rowAt_cells hg ?_,rfl⟩⟩
  rw[Nat.zero_add]
  exact cut_flat (f:=fun x:Nat×Int=>[i64 (x.1:Nat),i64 x.2]) (k:=2) hi fun _ _=>rfl
theorem gainHi_sv {t:DTask}{bR b1 bs ba bb bv o k:Nat}{s b:Sp}{lo:Int}{h:Heap}(hr:DReelAt h bR t)(hD:DOk t)(hs:Strong s)(g1:h.get b1=some (.cells [ptr bR] 141 false))(gs:h.get bs=some (.cells [i64 s.lo,i64 s.hi] 51 false))(ga:h.get ba=some (.cells [.pointer (some ⟨bv,o,none⟩)] 183 false))(gl:cellAt h bv (o+0)=some (i64 lo))(gb:h.get bb=some (.cells [i64 b.lo,i64 b.hi] 51 false))(h0:0<=lo)(h1:lo+(k:Nat)<=1000000) :
  Sv Tryz.prog 124 [i64 (k:Nat),ptr b1,ptr bs,ptr ba,ptr bb] h (RetP fun v h'=>v=.bool (decide (b.lo<=mostS t.rule s (lo+(k:Nat))))/\Ext h h'):=by
 obtain⟨ah,ch,aw,cw,g0,g1',g2',ad,cd,ats,ct,aS,cS,op,hge,hgR,hPh,hPw,hDs,hTs,hSs⟩:=hr
 have hr:RuleAt h [.slice ah t.rule.heat.length ch,.slice aw t.rule.wet.length cw,i64 t.rule.own,i64 t.rule.feed,i64 g0,i64 g1',i64 g2',i64 t.rule.lost] t.rule:=⟨ah,ch,aw,cw,g0,g1',g2',hge,rfl,hPh,hPw⟩
 refine Sv_enter Tryz.func124 rfl (by rw[Tryz.ntmps124];rfl) ?_;show Wc Tryz.prog ⟨124,23,none⟩ _ _ _ _ _
 refine zz ?_
 refine Wc_draw hmix [0,1,3,7,0,0,32,96,224,0,992,2047,4095,0,8192,32767,65535] [0,1,2,3,4,5,6,7,8,9,10,13,14] (some 11) [([12,15],(some 16)),([],none)] (by kernel_rfl) (by kernel_rfl) ?_
 refine z_l ?_;refine z_q ?_;refine z_f ?_;refine z_r ?_;refine z_r ?_;refine z_l ?_;refine z_q ?_;refine z_f ?_;refine z_l ?_;refine z_m ?_;refine z_y ?_;refine z_f ?_;refine z_l ?_
 refine Wp_eff [0,1,2,3,4,5,6,7,8,9,10] (by kernel_rfl) rfl (Stl_nil rfl) rfl nb rfl (W1_callE rfl rfl rfl rfl rfl Bod.h (gains_sv hr hD.rule hs (show 0<=lo+(k:Nat) by omega) h1) (fun h3 hE3=>?_))
 have gb3:=hE3.get gb
 refine z_j ?_;refine Wp_pure rfl rfl rfl rfl rfl (fun _=>A_geq rfl rfl) ?_
 refine Wp_eff [0,1,2,3,4,5,6,7,8,9,10,11,12,13,14,15] (by kernel_rfl) rfl (by refine t_l 14 ?_;refine t_f 13 ?_;exact Stl_nil rfl) rfl nb rfl (W1_op rfl rfl (A_assign rfl) ?_)
 refine Wp_end (Stl_nil rfl) nb' ?_
 refine zz ?_
 exact Wc_ret (Lv_ret rfl ⟨rfl,hE3⟩)
theorem gainLo_sv {t:DTask}{bR b1 bs ba bb bv o k:Nat}{s b:Sp}{lo:Int}{h:Heap}(hr:DReelAt h bR t)(hD:DOk t)(hs:Strong s)(g1:h.get b1=some (.cells [ptr bR] 141 false))(gs:h.get bs=some (.cells [i64 s.lo,i64 s.hi] 51 false))(ga:h.get ba=some (.cells [.pointer (some ⟨bv,o,none⟩)] 183 false))(gl:cellAt h bv (o+0)=some (i64 lo))(gb:h.get bb=some (.cells [i64 b.lo,i64 b.hi] 51 false))(h0:0<=lo)(h1:lo+(k:Nat)<=1000000) :
  Sv Tryz.prog 125 [i64 (k:Nat),ptr b1,ptr bs,ptr ba,ptr bb] h (RetP fun v h'=>v=.bool (decide (b.hi<leastS t.rule s (lo+(k:Nat))))/\Ext h h'):=by
 obtain⟨ah,ch,aw,cw,g0,g1',g2',ad,cd,ats,ct,aS,cS,op,hge,hgR,hPh,hPw,hDs,hTs,hSs⟩:=hr
 have hr:RuleAt h [.slice ah t.rule.heat.length ch,.slice aw t.rule.wet.length cw,i64 t.rule.own,i64 t.rule.feed,i64 g0,i64 g1',i64 g2',i64 t.rule.lost] t.rule:=⟨ah,ch,aw,cw,g0,g1',g2',hge,rfl,hPh,hPw⟩
 refine Sv_enter Tryz.func125 rfl (by rw[Tryz.ntmps125];rfl) ?_;show Wc Tryz.prog ⟨125,23,none⟩ _ _ _ _ _
 refine zz ?_
 refine Wc_draw hmix [0,1,3,7,0,0,32,96,224,0,992,2047,4095,0,8192,32767,65535] [0,1,2,3,4,5,6,7,8,9,10,13,14] (some 11) [([12,15],(some 16)),([],none)] (by kernel_rfl) (by kernel_rfl) ?_
 refine z_l ?_;refine z_q ?_;refine z_f ?_;refine z_r ?_;refine z_r ?_;refine z_l ?_;refine z_q ?_;refine z_f ?_;refine z_l ?_;refine z_m ?_;refine z_y ?_;refine z_f ?_;refine z_l ?_
 refine Wp_eff [0,1,2,3,4,5,6,7,8,9,10] (by kernel_rfl) rfl (Stl_nil rfl) rfl nb rfl (W1_callE rfl rfl rfl rfl rfl Bod.h (gains_sv hr hD.rule hs (show 0<=lo+(k:Nat) by omega) h1) (fun h3 hE3=>?_))
 have gb3:=hE3.get gb
 refine z_j ?_;refine Wp_pure rfl rfl rfl rfl rfl (fun _=>A_gtr rfl rfl) ?_
 refine Wp_eff [0,1,2,3,4,5,6,7,8,9,10,11,12,13,14,15] (by kernel_rfl) rfl (by refine t_l 14 ?_;refine t_f 13 ?_;exact Stl_nil rfl) rfl nb rfl (W1_op rfl rfl (A_assign rfl) ?_)
 refine Wp_end (Stl_nil rfl) nb' ?_
 refine zz ?_
 exact Wc_ret (Lv_ret rfl ⟨rfl,hE3⟩)
def KnownR (t:DTask)(h:Heap)(v:Value):Prop:=∃a a3 c3 f B,v=.tuple ⟨[.slice a (t.days.length+1) (t.days.length+1),.slice a3 B.length c3]⟩/\RowsAt 2 SpR h a (knownL t f)/\BackL t f 0/\B.map Prod.fst=(stD t t.days.length).bad/\RowsAt 2 (fun _ row (x:Nat×Int)=>row=[i64 (x.1:Nat),i64 x.2]) h a3 B
set_option maxHeartbeats 8000000 in
theorem known_sv {t:DTask}{bR:Nat}{h:Heap}(hr:DReelAt h bR t)(hD:DOk t) :
  Sv Tryz.prog 85 [ptr bR] h (RetP fun v h'=>KnownR t h' v/\Ext h h'):=by
 have hd1:=hD.days1
 have ht1:=hD.tests1
 have hr0:=hr
 obtain⟨ah,ch,aw,cw,g0,g1',g2',ad,cd,ats,ct,aS,cS,op,hge,hgR,hPh,hPw,hDs,hTs,hSs⟩:=hr
 refine Sv_wf fun hw=>?_
 refine Sv_enter Tryz.func85 rfl (by rw[Tryz.ntmps85];rfl) ?_;show Wc Tryz.prog ⟨85,174,none⟩ _ _ _ _ _
 refine zy ?_
 refine Wo_box rfl rfl rfl fun hB hEB hWB hg1 hn1=>?_
 generalize hb1:h.nx=b1 at *
 refine Wo_alloc rfl rfl Zr.h fun h2 hE2 hW2 hg2 hn2=>?_
 have hO:=(Own.nil hB hB).newCe hWB (Nat.le_refl _) hE2 hg2 (Nat.le_refl _)
 generalize hb2:hB.nx=b2 at *
 refine Wo_alloc rfl rfl Zr.h fun h3 hE3 hW3 hg3 hn3=>?_
 replace hO:=hO.newCe hW2 hE2.2.1 hE3 hg3 (Nat.le_refl _)
 have hE:=hE2.trans hE3
 generalize hb3:h2.nx=b3 at *
 clear hE2 hE3 hg2 hg3 hn2 hn3 hW2
 have hgRB:=hEB.get hgR
 have q2:rowAt h3 bR 8 13=some [.slice ah t.rule.heat.length ch,.slice aw t.rule.wet.length cw,i64 t.rule.own,i64 t.rule.feed,i64 g0,i64 g1',i64 g2',i64 t.rule.lost,i64 t.first,.slice ad t.days.length cd,i64 t.start.lo,i64 t.start.hi,.slice ats t.tests.length ct]:=hE.row (rowAt_cells hgRB rfl)
 have q1:=hE.get hg1
 refine zy ?_
 refine Wo_allocStore rfl rfl Zr.h Tsz.h rfl (fun _=>rfl) rfl rfl rfl fun h4 hE4 hW4 hg4 hn4=>?_
 replace hO:=hO.newCe hW3 hE.2.1 hE4 hg4 (Nat.le_refl _)
 replace hE:=hE.trans hE4
 generalize hb4:h3.nx=b4 at *
 clear q1 q2 hE4 hW3 hn4
 refine zy ?_
 refine Wo_callr rfl rfl rfl rfl rfl Bod.h rfl rfl (orderedD_sv hW4 (RowsAt.ext (R:=TestR) (fun x _=>x) hTs (hEB.trans hE)) ht1) ?_
 rintro _ h5 ⟨bo,rfl,hgo,hno,hE5⟩
 replace hO:=hO.newCe hW4 hE.2.1 hE5 hgo hno
 replace hE:=hE.trans hE5
 have hg45:=hE5.get hg4
 clear hgo hno hE5
 refine Wo_wf fun hW5=>?_
 refine zy ?_
 refine Wo_allocStore rfl rfl Zr.h Tsz.h rfl (fun _=>rfl) rfl rfl rfl fun h6 hE6 hW6 hg5 hn6=>?_
 replace hO:=hO.newCe hW5 hE.2.1 hE6 hg5 (Nat.le_refl _)
 replace hE:=hE.trans hE6
 replace hg45:=hE6.get hg45
 generalize hb5:h5.nx=b5 at *
 clear hE6 hg5 hn6 hW5
 refine zy ?_
 refine Wo_alloc rfl rfl Zr.h fun h7 hE7 hW7 hg6 hn7=>?_
 replace hO:=hO.newCe hW6 hE.2.1 hE7 hg6 (Nat.le_refl _)
 replace hE:=hE.trans hE7
 replace hg45:=hE7.get hg45
 generalize hb6:h6.nx=b6 at *
 clear hE7 hg6 hn7 hW6
 refine zy ?_
 refine Wo_allocStore rfl rfl Zr.h Tsz.h rfl (fun _=>rfl) rfl rfl rfl fun h8 hE8 hW8 hg7 hn8=>?_
 replace hO:=hO.newCe hW7 hE.2.1 hE8 hg7 (Nat.le_refl _)
 replace hE:=hE.trans hE8
 replace hg45:=hE8.get hg45
 generalize hb7:h7.nx=b7 at *
 clear hE8 hg7 hn8 hW7
 have q1:=hE.get hg1
 refine zy ?_
 refine Wo_callr rfl rfl rfl rfl rfl Bod.h rfl rfl mornings_sv ?_
 rintro _ h9 ⟨c1,c2,c3,c4,rfl,hE9,hOm⟩
 replace hO:=hO.join hW8 hE.2.1 hE9 hOm
 replace hE:=hE.trans hE9
 clear hE9 hOm hg45 q1
 refine Wo_wf fun hW9=>?_
 clear hW8
 replace hO:=(((hO.nilSl 3 1).nilSl 89 2).nilSl 51 2)
 refine zy ?_
 refine Wc_rangeL rfl rfl Bod.h (fun e hs hL hEL hWL hnL hLr hLl=>?_)
 generalize hlp:h9.nx+1=lp at *
 have hOL:=hO.join hW9 hE.2.1 hEL (Own.two hLl hLr (by omega) (Nat.le_refl _) (by omega))
 have hEBL:=hE.trans hEL
 generalize hr9:h9.nx=r9 at *
 generalize hrec:AO.loop LoopState.ready none _ _ _ _ _ _ _=rec at hLl hOL
 let LL:AO->Sp->Value->Nat->Value->List (Nat×Int)->Nat->Nat->Value->List Nat->List It:=fun o nw v2 iL v3 B oo rl v6 G=>[loI lp o,ceI b7 [i64 nw.lo,i64 nw.hi] 51 false,ceI b2 [v2] 84 false,slI hB v2 51 2 (cellsF iL (fwdS t)) iL,ceI b3 [v3] 85 false,slI hB v3 89 2 (bCells B) B.length,ceI b5 [.slice (some ⟨bo,oo,none⟩) rl rl] 31 false,ceI bo ((ints (ordD t)).map i64) 3 false,ceI b6 [v6] 31 false,slI hB v6 3 1 ((ints G).map i64) G.length,ceI c1 [i64 0] 3 false,ceI c2 [i64 (t.days.length:Nat)] 3 false,ceI c4 [ptr b7] 183 false,ceI c3 [ptr bR] 141 false,ceI b4 [.slice ah t.rule.heat.length ch,.slice aw t.rule.wet.length cw,i64 t.rule.own,i64 t.rule.feed,i64 g0,i64 g1',i64 g2',i64 t.rule.lost,i64 t.first,.slice ad t.days.length cd,i64 t.start.lo,i64 t.start.hi,.slice ats t.tests.length ct] 54 false,loI r9 .defd]
 have hOL2:Own hB hL (LL rec t.start (.slice none 0 0) 0 (.slice none 0 0) [] 0 t.tests.length (.slice none 0 0) []):=hOL.shuf (ceI 0 [] 0 false) [0,1,2,3,4,5,6,7,8,9,10,11,12,13,14,15] [0,9,15,2,14,3,11,12,10,4,5,6,7,8,13,1] (by decide) rfl
 clear hOL hO
 let St:AO->Nat->KSt->List Nat->Heap->Prop:=fun o iL st R h'=>Ext hB h'/\∃v2 v3 v6 B oo p,B.map Prod.fst=st.bad/\R=(ordD t).drop p/\(p<t.tests.length->oo=p)/\st.good.length+st.bad.length+R.length=t.tests.length/\Own hB h' (LL o st.now v2 iL v3 B oo R.length v6 st.good)
 have hordl:(ordD t).length=t.tests.length:=by rw[(ordD_perm t).length_eq,List.length_range]
 let J:Nat->Heap->Prop:=fun i h'=>St rec i (preD t i) (fromD t i) h'
 let J':Nat->Heap->Prop:=fun i h'=>St rec (i+1) (stD t i) (fromD t (i+1)) h'
 have hJ0:J 0 hL:=by
  refine⟨hEBL,.slice none 0 0,.slice none 0 0,.slice none 0 0,[],0,0,rfl,fromD_zero hD,(fun _=>rfl),?_,?_⟩
  ·rw[fromD_zero hD,hordl]
   show 0+0+t.tests.length=t.tests.length
   omega
  ·rw[fromD_zero hD,hordl]
   exact hOL2
 have hf0:=hD.first0
 have hf1:=hD.last
 refine (mornIter_sv (t:=t) (l:=lp) (bR:=bR) (bN:=b7) (c1:=c1) (c2:=c2) (c3:=c3) (c4:=c4) (i0:=0) (n:=t.days.length) hD (Nat.le_refl _) (Nat.zero_le _) J J' (fun _=>False) (hOL2.at 10 rfl) hJ0 (fun i h10 hi1 hi2 hJ=>?_) (fun i h10 hi1 hi2 hJ=>?_)).ret ?_
 ·obtain⟨hE1,v2,v3,v6,B,oo,p,hB1,hR1,hoo,hnl,hO1⟩:=hJ
  refine⟨fwdS t i,⟨hr0.ext (hEB.trans hE1),hO1.at 10 rfl,hO1.at 11 rfl,hO1.at 13 rfl,hO1.at 12 rfl,hO1.at 1 rfl,fwd_ok hD hi2⟩,fun hin h11 h12 hE11 hw11 hU12=>?_⟩
  obtain⟨k1,k2⟩:=((hO1.ext hE11).up2).putCe hw11 (hE1.trans hE11) hWB hU12
  exact⟨k2,v2,v3,v6,B,oo,p,hB1,hR1,hoo,hnl,k1.up2⟩
 ·obtain⟨hE1,v2,v3,v6,B,oo,p,hB1,hR1,hoo,hnl,hO1⟩:=hJ
  have hl10:h10.get lp=some rec:=hO1.at 0 rfl
  subst hrec
  refine Yd_intro hl10 hs rfl rfl ?_
  refine Wc_wf fun hw10=>?_
  refine Wc_region ?_
  refine Wo_allocStore rfl rfl Zr.h Tsz.h rfl (fun _=>rfl) rfl rfl rfl fun h11 hE11 hW11 hg8 hn11=>?_
  have hl11:=hE11.get hl10
  refine Wo_nil ⟨rfl,rfl,_,_,_,_,_,_,_,_,hl11,?_⟩
  have hO2:=(hO1.newCe hw10 hE1.2.1 hE11 hg8 (Nat.le_refl _)).up2
  have hE2:=hE1.trans hE11
  generalize h10.nx=b8 at *
  generalize hAO:AO.loop LoopState.busy _ _ _ _ _ _ _ _=bz
  have hU:=Upd.mk' h11 lp bz
  obtain⟨hO3,hE3⟩:=hO2.loSet hWB hE2 hU
  generalize h11.set lp bz=h12 at *
  clear hO2 hE2 hU hl11 hg8 hn11 hW11 hE11 hO1 hE1 hl10 hw10
  clear h11 h10
  let LB:Sp->Value->List (Nat×Int)->Nat->Nat->Value->List Nat->List It:=fun nw v3 B oo rl v6 G=>loI lp bz::ceI b8 [i64 (i:Nat)] 3 false::(LL bz nw v2 i v3 B oo rl v6 G).tail
  let StB:KSt->List Nat->Heap->Prop:=fun st R h'=>Ext hB h'/\∃v3 v6 B oo p,B.map Prod.fst=st.bad/\R=(ordD t).drop p/\(p<t.tests.length->oo=p)/\st.good.length+st.bad.length+R.length=t.tests.length/\Own hB h' (LB st.now v3 B oo R.length v6 st.good)
  have hSt0:StB (preD t i) (ofDay t i++fromD t (i+1)) h12:=by
   rw[<-fromD_split]
   exact⟨hE3,v3,v6,B,oo,p,hB1,hR1,hoo,hnl,hO3⟩
  clear hO3 hE3 hB1 hR1 hoo hnl
  clear v3 v6 B oo p
  refine zy ?_
  refine Wc.mono (Q:=fun x m' ds' h'=>x=.exit 2/\ds'=[]/\StB (stD t i) (fromD t (i+1)) h'/\AllK m' [(1,ptr b1),(2,ptr b2),(3,ptr b3),(4,ptr b4),(5,ptr b5),(6,ptr b6),(7,ptr b7),(8,ptr b8)]) ?_ ?_
  ·refine Wc_loop (fun (R1:List Nat) m ds h'=>ds=[]/\∃P1,ofDay t i=P1++R1/\StB (P1.foldl (tryD t) (preD t i)) (R1++fromD t (i+1)) h'/\AllK m [(1,ptr b1),(2,ptr b2),(3,ptr b3),(4,ptr b4),(5,ptr b5),(6,ptr b6),(7,ptr b7),(8,ptr b8)]) (fun R1=>R1.length) (ofDay t i) ?_ ?_
   ·exact⟨rfl,[],rfl,hSt0,rfl,rfl,rfl,rfl,rfl,rfl,rfl,rfl,trivial⟩
   clear hSt0
   clear h12
   rintro R1 m ds h1 ⟨rfl,P1,hP1,hSt,hall⟩
   have hSt0:=hSt
   obtain⟨hE2,v3,v6,B,oo,p,hB2,hR2,hoo2,hnl,hO2⟩:=hSt
   refine Wc_wf fun hw1=>?_
   refine Wc.le ?_ (Le.kn hall)
   have k1:=hE2.get hg1
   have k4:h1.get b4=_:=hO2.at 15 rfl
   have k5:h1.get b5=_:=hO2.at 7 rfl
   have k6:h1.get b6=_:=hO2.at 9 rfl
   have k7:h1.get b7=_:=hO2.at 2 rfl
   have k8:h1.get b8=_:=hO2.at 1 rfl
   have ko:h1.get bo=_:=hO2.at 8 rfl
   have hlen:(R1++fromD t (i+1)).length=t.tests.length-p:=by rw[hR2,List.length_drop,hordl]
   have hcell:∀q R',R1++fromD t (i+1)=q::R'->nth ((ints (ordD t)).map i64) (oo+0*1)=some (i64 (q:Nat))/\p<t.tests.length/\R'=(ordD t).drop (p+1):=fun q R' e=>by
    rw[e] at hlen hR2
    have hp:p<t.tests.length:=by simp only[List.length_cons] at hlen;omega
    have hq:(ordD t)[p]?=some q:=by
     have:=congrArg (fun l=>l[0]?) hR2
     simpa using this.symm
    refine⟨?_,hp,?_⟩
    ·rw[nth_eq,hoo2 hp,Nat.zero_mul,Nat.add_zero,List.getElem?_map,ints,List.getElem?_map,hq];rfl
    ·have:=congrArg List.tail hR2
     rw[List.tail_cons,List.tail_drop] at this
     exact this
   refine zy ?_
   cases R1 with
   | nil =>
    rw[List.append_nil] at hP1
    have fin:StB (stD t i) (fromD t (i+1)) h1:=by
     have e:stD t i=P1.foldl (tryD t) (preD t i):=by unfold stD stepD;rw[hP1]
     rw[e];exact hSt0
    rw[List.nil_append] at hcell k5 hlen
    rcases hfe:fromD t (i+1) with _|⟨q,R'⟩
    ·rw[hfe] at k5 fin
     refine Wc_draw hmix [0,1,3,7,15,31,15,79,207,511,1023,2047,15,4111,15,28687,65535,131071] [0,1,2,3,4,5,6,7,8,9,10,11,12,13,14,15,16,17] none [] (by kernel_rfl) (by kernel_rfl) ?_
     refine z_l ?_;refine z_c ?_;refine Wp_pure rfl rfl rfl rfl rfl (fun _=>A_ff (show ¬(0:Int)<((0:Nat):Int) by decide) (A_gtr rfl rfl)) ?_;refine z_m ?_;refine g_f ?_;refine g_l ?_;refine g_l ?_;refine g_i ?_;refine g_l ?_;refine g_i ?_;refine g_f ?_;refine g_l ?_;refine g_f ?_;refine g_l ?_;refine g_l ?_;refine g_y ?_;refine z_o ?_;refine z_p ?_
     refine Wp_end (Stl_nil rfl) nb' ?_
     refine zy ?_
     exact⟨rfl,rfl,fin,rfl,rfl,rfl,rfl,rfl,rfl,rfl,rfl,trivial⟩
    ·obtain⟨hnq,hp,_⟩:=hcell q R' hfe
     have hc:=cellAt_cells ko hnq
     obtain⟨hq,hday⟩:=mem_fromD (t:=t) (i:=i+1) (k:=q) (by rw[hfe];exact List.mem_cons_self)
     rw[testAt_eq hq] at hday
     rw[hfe] at k5 fin
     have hy0:=(hD.tests _ (List.getElem_mem hq)).d0
     have hy1:=(hD.tests _ (List.getElem_mem hq)).d1
     obtain⟨bT,oT,oaT,rfl,hrow,hdc,-⟩:=TestR.at (RowsAt.ext (R:=TestR) (fun x _=>x) hTs (hEB.trans hE2)) hq
     refine Wc_draw hmix [0,1,3,7,15,31,15,79,207,511,1023,2047,15,4111,15,28687,65535,131071] [0,1,2,3,4,5,6,7,8,9,10,11,12,13,14,15,16,17] none [] (by kernel_rfl) (by kernel_rfl) ?_
     refine z_l ?_;refine z_c ?_;refine Wp_pure rfl rfl rfl rfl rfl (fun _=>A_tt (show (0:Int)<(((q::R').length:Nat):Int) by simp only[List.length_cons];omega) (A_gtr rfl rfl)) ?_;refine z_m ?_;refine g_f ?_;refine g_l ?_;refine g_l ?_
     first|refine Wp_off rfl rfl rfl rfl ?_|refine Wp_pure rfl rfl rfl rfl rfl (fun _=>A_ix (k:=0) Und.h Tsz.h rfl rfl (Nat.succ_pos _)) ?_
     refine g_l ?_;refine g_i ?_;refine g_f ?_;refine g_l ?_;refine g_f ?_;refine g_l ?_;refine g_l ?_;refine g_y ?_
     first|refine Wp_off rfl rfl rfl rfl ?_|refine Wp_pure rfl rfl rfl rfl rfl (fun _=>A_ff (show ¬t.tests[q].day=t.first+(i:Int) by omega) (A_eql rfl rfl)) ?_
     refine z_p ?_
     refine Wp_end (Stl_nil rfl) nb' ?_
     refine zy ?_
     exact⟨rfl,rfl,fin,rfl,rfl,rfl,rfl,rfl,rfl,rfl,rfl,trivial⟩
   | cons q R1' =>
    have hqm:q∈ofDay t i:=by rw[hP1];simp
    obtain⟨hq,hday⟩:=mem_ofDay hqm
    have htq:=testAt_eq hq
    have hkT:keepT t q=keepS t.rule.grades t.tests[q]:=by unfold keepT;rw[htq]
    have hto:=hD.tests _ (List.getElem_mem hq)
    rw[htq] at hday
    have hP2:ofDay t i=(P1++[q])++R1':=by rw[hP1,List.append_assoc];rfl
    obtain⟨hnq,hp,hR'⟩:=hcell q (R1'++fromD t (i+1)) rfl
    have hc:=cellAt_cells ko hnq
    have hmid:=mid_good hD hi2 (P:=P1) (fun k hk=>by rw[hP1];exact List.mem_append_left _ hk)
    have hG:∀n∈[g0,g1',g2'],1<=n/\n<=1000000:=by rw[<-hge];exact hD.rule.g1
    rw[hge] at hkT
    have hfs:(P1++[q]).foldl (tryD t) (preD t i)=tryD t (P1.foldl (tryD t) (preD t i)) q:=foldl_snoc
    have hlen2:(R1'++fromD t (i+1)).length=t.tests.length-p-1:=by
     simp only[List.cons_append,List.length_cons] at hlen;omega
    generalize P1.foldl (tryD t) (preD t i)=st at *
    have hnxt:∀(h':Heap) (st':KSt) (v3':Value) (B':List (Nat×Int)) (v6':Value),B'.map Prod.fst=st'.bad->st'.good.length+st'.bad.length=st.good.length+st.bad.length+1->Ext hB h'->Own hB h' (ceI b5 [.slice (some ⟨bo,if 1<(q::(R1'++fromD t (i+1))).length then oo+1*1 else oo,none⟩) ((q::(R1'++fromD t (i+1))).length-1) ((q::(R1'++fromD t (i+1))).length-1)] 31 false::(LB st'.now v3' B' oo (q::(R1'++fromD t (i+1))).length v6' st'.good).eraseIdx 7)->StB st' (R1'++fromD t (i+1)) h':=fun h' st' v3' B' v6' hb hnl' he hO=>by
     refine⟨he,v3',v6',B',_,p+1,hb,hR',fun hp1=>?_,?_,hO.unpick 7 (Nat.le_of_ble_eq_true rfl)⟩
     ·rw[if_pos (by simp only[List.length_cons];omega),hoo2 hp]
     ·simp only[List.cons_append,List.length_cons] at hnl;omega
    obtain⟨bT,oT,oaT,rfl,hrow,hdc,-⟩:=TestR.at (RowsAt.ext (R:=TestR) (fun x _=>x) hTs (hEB.trans hE2)) hq
    refine Wc_draw hmix [0,1,3,7,15,31,15,79,207,511,1023,2047,15,4111,15,28687,65535,131071] [0,1,2,3,4,5,6,7,8,9,10,11,12,13,14,15,16,17] none [] (by kernel_rfl) (by kernel_rfl) ?_
    refine z_l ?_;refine z_c ?_;refine Wp_pure rfl rfl rfl rfl rfl (fun _=>A_tt (show (0:Int)<(((q::(R1'++fromD t (i+1))).length:Nat):Int) by simp only[List.length_cons];omega) (A_gtr rfl rfl)) ?_;refine z_m ?_;refine g_f ?_;refine g_l ?_;refine g_l ?_
    first|refine Wp_off rfl rfl rfl rfl ?_|refine Wp_pure rfl rfl rfl rfl rfl (fun _=>A_ix (k:=0) Und.h Tsz.h rfl rfl (Nat.succ_pos _)) ?_
    refine g_l ?_;refine g_i ?_;refine g_f ?_;refine g_l ?_;refine g_f ?_;refine g_l ?_;refine g_l ?_;refine g_y ?_
    first|refine Wp_off rfl rfl rfl rfl ?_|refine Wp_pure rfl rfl rfl rfl rfl (fun _=>A_tt hday (A_eql rfl rfl)) ?_
    refine z_p ?_
    refine Wp_end (Stl_nil rfl) nb' ?_
    refine zy ?_
    have hEr:=Ext.rsv h1
    refine Wc_draw hmix [0,0,2,0,8,24,62,126,255,0,1023] [0,1,2,3,4,5,6,7,9] (some 8) [([],(some 10)),([],none)] (by kernel_rfl) (by kernel_rfl) ?_
    refine z_l ?_;refine z_f ?_;refine z_l ?_;refine z_l ?_;refine Wp_pure rfl rfl rfl rfl rfl (fun _=>A_ix (k:=0) Und.h Tsz.h rfl rfl (Nat.succ_pos _)) ?_;refine z_l ?_;refine z_i ?_;refine z_r ?_
    refine Wp_new (nk:=.ptr) rfl rfl rfl rfl rfl (fun _ _ _=>N_alloc Zr.h) ?_
    refine Wp_eff (h1:=(rsv h1)) [0,1,2,3,4,5,6,7] (by kernel_rfl) rfl (Stl_nil rfl) rfl rfl rfl (W1_wfK (W1_callE rfl rfl rfl rfl rfl Bod.h (keep_sv (x:=t.tests[q]) (hEr.get (hE2.get hgRB)) hto.g0 hto.g1 hto.e0 hto.e1 hG) (fun h2 hE3 hw2=>?_)))
    rw[<-hkT]
    have hUa:=Upd.mk' h2 h1.nx (.cells [i64 0,i64 0] 51 false)
    have hE':=hUa.ext (hEr.trans hE3) hw1 (Nat.le_refl _)
    refine Wp_eff (h1:=(h2.set h1.nx (.cells [i64 0,i64 0] 51 false))) [0,1,2,3,4,5,6,7,8,9] (by kernel_rfl) rfl (by refine Stl_new (i:=9) (nk:=.ptr) rfl rfl rfl rfl rfl (fun _ _ _=>N_alloc Zr.h) rfl ?_;exact Stl_nil rfl) rfl rfl rfl (W1_wfK (W1_store rfl rfl Tsz.h rfl rfl hUa.at' rfl rfl rfl (fun h3 hU3 hw3=>?_)))
    have hE13:Ext h1 h3:=hU3.ext hE' hw1 (Nat.le_refl _)
    refine Wp_end (h1:=h3) (Stl_nil rfl) rfl ?_
    have hg9:=hU3.at'
    have hO3:=hO2.newCe hw1 hE2.2.1 hE13 hg9 (Nat.le_refl _)
    replace hE2:=hE2.trans hE13
    replace k7:=hE13.get k7
    generalize h1.nx=b9 at *
    clear hU3 hE' hUa hE3 hEr hw2 hO2 k1 k4 k5 k6 k8 ko hE13 hw1 hcell hrow hdc hc hSt0
    clear h2 h1
    refine zy ?_
    refine Wo_callr rfl rfl rfl rfl rfl Bod.h rfl rfl (meet_sv (a:=st.now) (b:=keepT t q)) ?_
    rintro _ h4 ⟨rfl,hE4⟩
    refine Wo_wf fun hw4=>?_
    refine zy ?_
    refine Wo_allocStore rfl rfl Zr.h Tsz.h rfl (fun _=>rfl) rfl rfl rfl fun h5 hE5 hW5 hg10 hn5=>?_
    have hO5:=(hO3.ext hE4).newCe hw4 (hE2.trans hE4).2.1 hE5 hg10 (Nat.le_refl _)
    replace hE2:=hE2.trans (hE4.trans hE5)
    generalize h4.nx=b10 at *
    clear hE4 hE5 hO3 hg9 k7 hw3 hw4 hn5 hg10
    clear h4 h3
    refine zy ?_
    refine Wc_cond rfl (fun hcd=>?_) (fun hcd=>?_)
    ·have hcd:=of_decide_eq_true hcd
     have htr:=tryD_ok hcd
     rw[htr] at hfs
     have k5:h5.get b5=_:=hO5.at 9 rfl
     have k6:h5.get b6=_:=hO5.at 11 rfl
     have k10:h5.get b10=_:=hO5.at 0 rfl
     have ko:h5.get bo=_:=hO5.at 10 rfl
     have hc:=cellAt_cells ko hnq
     have hEa:=Ext.add hW5 (.cells [i64 (q:Nat)] 3 false)
     have k10a:=hEa.get k10
     have hgl:(st.good++[q]).length=st.good.length+1:=by simp
     have hgm:(ints (st.good++[q])).map i64=(ints st.good).map i64++[i64 (q:Nat)]:=by simp[ints]
     refine zy ?_
     refine Wc_draw hmix [0,0,0,4,12,28,62,127,255] [0,1,2,3,4,5] (some 6) [([],(some 7)),([],(some 8)),([],none)] (by kernel_rfl) (by kernel_rfl) ?_
     refine z_r ?_;refine z_l ?_;refine z_l ?_;refine Wp_pure rfl rfl rfl rfl rfl (fun _=>A_ix (k:=0) Und.h Tsz.h rfl rfl (Nat.succ_pos _)) ?_;refine z_l ?_
     refine Wp_new (nk:=.sl _ _) rfl rfl rfl rfl rfl (fun _ _ hs=>N_bs hs Und.h Tsz.h Zr.h rfl rfl rfl rfl rfl) ?_
     refine Wp_eff (h1:=(Heap.add h5 _)) [1,2,3,4,5] (by kernel_rfl) rfl (Stl_nil rfl) rfl rfl rfl (W1_wfK (W1_appendO (by':=8) (sz:=1) (k:=1) (n:=st.good.length) (l:=[i64 (q:Nat)]) rfl hWB (hE2.trans hEa) rfl rfl rfl rfl Und.h inferInstance rfl rfl ((hO5.ext hEa).pick 12 rfl) ((FreshSl.lit (h0:=hB) (n:=1) (sz:=1) Heap.get_add_same rfl hE2.2.1).src (dd:=.slice 3) Und.h (by intro k;simp)) rfl rfl (by omega) (by omega) (fun v8 h6 hO6 hE6 hw6=>?_)))
     obtain⟨bg,spg,rfl⟩:=sl_shape hO6.p1 (Nat.succ_pos _)
     rw[<-hgl,<-hgm] at hO6
     have hO6b:=hO6.unpick 12 (Nat.le_of_ble_eq_true rfl)
     have k10b:h6.get b10=_:=hO6b.at 0 rfl
     refine Wp_eff (h1:=h6) [0,1,2,3,4,5,6] (by kernel_rfl) rfl (by refine t_r 0 ?_;exact Stl_nil rfl) rfl rfl rfl (W1_wfK (W1_storeO rfl hWB hE6 rfl Tsz.h rfl rfl (hO6b.pick 4 rfl) rfl rfl rfl (fun h7 hO7 hE7 hw7=>?_)))
     refine Wp_eff (h1:=h7) [0,1,2,3,4,5,6,7] (by kernel_rfl) rfl (Stl_nil rfl) rfl rfl rfl (W1_wfK (W1_storeO rfl hWB hE7 rfl Tsz.h rfl rfl ((hO7.unpick 4 (Nat.le_of_ble_eq_true rfl)).pick 11 rfl) rfl rfl rfl (fun h8 hO8 hE8 hw8=>?_)))
     refine Wp_end (h1:=h8) (Stl_nil rfl) rfl ?_
     rw[<-hgl] at hO8
     have hO9:Own hB h8 (LB (meetS st.now (keepT t q)) v3 B oo (q::(R1'++fromD t (i+1))).length (.slice (some ⟨bg,0,spg⟩) (st.good++[q]).length (st.good++[q]).length) (st.good++[q])):=(hO8.unpick 11 (Nat.le_of_ble_eq_true rfl)).tail.tail
     have k5':h8.get b5=_:=hO9.at 7 rfl
     refine zy ?_
     refine Wo_do rfl rfl rfl rfl (A_sliceFrom (k:=1) Und.h Tsz.h rfl rfl rfl (by simp only[List.length_cons];omega) (Nat.le_refl _)) ?_
     refine zy ?_
     refine Wo_storeO hWB hE8 rfl Tsz.h rfl rfl (hO9.pick 7 rfl) rfl rfl rfl fun h10 hw10 hO10 hE10=>?_
     refine zy ?_
     refine⟨R1',Nat.lt_succ_self _,rfl,P1++[q],hP2,?_,rfl,rfl,rfl,rfl,rfl,rfl,rfl,rfl,trivial⟩
     rw[hfs]
     exact hnxt h10 ⟨meetS st.now (keepT t q),st.good++[q],st.bad⟩ _ _ _ hB2 (by show (st.good++[q]).length+st.bad.length=st.good.length+st.bad.length+1;omega) hE10 hO10
    ·have hcd:=of_decide_eq_false hcd
     have htr:=tryD_bad hcd
     rw[htr] at hfs
     refine zy ?_
     refine Wo_allocStore rfl rfl Zr.h Tsz.h rfl (fun _=>rfl) rfl rfl rfl fun h6 hE6 hW6 hg12 hn6=>?_
     have hO6:=hO5.newCe hW5 hE2.2.1 hE6 hg12 (Nat.le_refl _)
     replace hE2:=hE2.trans hE6
     generalize h5.nx=b12 at *
     clear hE6 hg12 hn6 hO5 hW5
     clear h5
     obtain⟨a6,hv6,_,hs6⟩:=FreshSl.srcAt (h:=h6) (hO6.at 13 rfl)
     subst hv6
     have k6:h6.get b6=_:=hO6.at 12 rfl
     refine zy ?_
     refine Wo_callr rfl rfl rfl rfl rfl Bod.h rfl rfl backI_sv ?_
     rintro _ h7 ⟨c5,rfl,hE7,hnc5,hgc5⟩
     have hO7:=hO6.ext hE7
     replace hE2:=hE2.trans hE7
     replace hs6:=hs6.1.ext hE7
     clear hO6 hE7 hW6 k6 hnc5
     clear h6
     refine Wo_wf fun hw7=>?_
     refine Wo_nil ?_
     show Wc _ _ _ _ _ _ _
     refine Wc.mono (Q:=fun x m' ds' h'=>x=.normal/\ds'=[]/\Exb (fun c=>c=b12\/h7.nx<=c) h7 h'/\(∃x:Int,h'.get b12=some (.cells [i64 x] 3 false))/\AllK m' [(1,ptr b1),(2,ptr b2),(3,ptr b3),(4,ptr b4),(5,ptr b5),(6,ptr b6),(7,ptr b7),(8,ptr b8),(12,ptr b12)]) ?_ ?_
     ·refine Wc_block ?_
      refine Wc_rangeNL rfl ((hO7.at 3 rfl).trans (congrArg some hAO.symm)) rfl Bod.h (fun e2 hs2 hM hEM hWM hnM hLM=>?_)
      have hb12n:b12<h7.nx:=hw7 _ _ hO7.p1
      have hc5n:c5<h7.nx:=hw7 _ _ hgc5
      generalize hlp2:h7.nx=lp2 at *
      generalize hrec2:AO.loop LoopState.ready none _ _ _ _ _ _ _=rec2 at hLM
      refine (backIterI_sv (l:=lp2) (c1:=c5) (a:=a6) (c:=(ints st.good).length) (L:=ints st.good) (by rw[ints,List.length_map];omega) (fun _ h'=>Exb (fun c=>c=lp2) hM h'/\h'.get lp2=some rec2) (fun h'=>Exb (fun c=>c=lp2\/c=b12) hM h'/\(∃x:Int,h'.get b12=some (.cells [i64 x] 3 false))/\∃fn nt e ps ag bd df,h'.get lp2=some (.loop .done (some (.exit 4)) fn nt e ps ag bd df)) ⟨Exb.refl _ _,hLM⟩ (fun k h' hJk=>?_) (fun k h' hk hJk=>?_)).ret ?_
      ·obtain⟨hX,hl⟩:=hJk
       have hEx:Ext h7 h':=hX.ext hEM hw7 (fun c e=>by omega)
       exact⟨hEx.get hgc5,hs6.ext hEx⟩
      ·obtain⟨hX,hl⟩:=hJk
       subst hrec2
       have hlt:(ints st.good).length-1-k<(ints st.good).length:=by omega
       obtain⟨g,hgm,hge2⟩:∃g,g∈st.good/\(ints st.good)[(ints st.good).length-1-k]=((g:Nat):Int):=by
        have hlt':(ints st.good).length-1-k<st.good.length:=by rw[ints,List.length_map] at hlt ⊢;exact hlt
        exact⟨st.good[(ints st.good).length-1-k],List.getElem_mem _,by simp[ints]⟩
       rw[hge2]
       obtain⟨hgt,hgd⟩:=hmid.2 g hgm
       refine Yd_intro hl hs2 rfl rfl ?_
       refine zy ?_
       refine⟨rfl,rfl,_,_,_,_,_,_,_,_,hl,?_⟩
       generalize hAO2:AO.loop LoopState.busy _ _ _ _ _ _ _ _=bz2
       have hU:=Upd.mk' h' lp2 bz2
       have hX9:=hX.upd hU rfl
       have hl9:=hU.at'
       generalize h'.set lp2 bz2=h9' at *
       clear hU hX hl
       clear h'
       have hE79:Ext h7 h9':=hX9.ext hEM hw7 (fun c e=>by omega)
       have hE29:=hE2.trans hE79
       refine Wc_wf fun hw9=>?_
       have k1:=hE29.get hg1
       have k4:=hE79.get (show h7.get b4=_ from hO7.at 18 rfl)
       have k8:=hE79.get (show h7.get b8=_ from hO7.at 4 rfl)
       have k9:=hE79.get (show h7.get b9=_ from hO7.at 2 rfl)
       obtain⟨bU,oU,oaU,eU,hrowg,hdg,-⟩:=TestR.at (RowsAt.ext (R:=TestR) (fun x _=>x) hTs (hEB.trans hE29)) hgt
       cases eU
       have htg:=testAt_eq hgt
       have hkTg:keepT t g=keepS t.rule.grades t.tests[g]:=by unfold keepT;rw[htg]
       rw[hge] at hkTg
       have hog:=hD.tests _ (List.getElem_mem hgt)
       have ho0:=hog.d0
       have ho1:=hog.d1
       have hdn:=(dayN_le hD hgt).2
       rw[htg] at hdn
       have hEr:=Ext.rsv h9'
       refine zy ?_
       refine Wc_draw hmix [0,0,0,4,0,28,60,126,0,256,0,1792,3840,7936,0,16384,65280,0,262143,0,1048575,2097151,4194303,4194303,0,25165823,67108863] [0,1,2,3,4,5,6,8,9,10,11,12,13,14,15,16,17,19,24] (some 7) [([],(some 18)),([],(some 20)),([21,22,23],(some 25)),([],(some 26)),([],none)] (by kernel_rfl) (by kernel_rfl) ?_
       refine z_l ?_;refine z_l ?_;refine z_f ?_;refine z_l ?_;refine z_m ?_;refine z_i ?_;refine z_r ?_;refine z_f ?_;refine z_l ?_;refine z_m ?_;refine z_i ?_;refine z_f ?_;refine z_l ?_;refine z_f ?_;refine z_l ?_;refine z_u ?_;refine z_l ?_;refine z_r ?_
       refine Wp_new (nk:=.ptr) rfl rfl rfl rfl rfl (fun _ _ _=>N_alloc Zr.h) ?_
       refine Wp_eff (h1:=(rsv h9')) [1,2,3,4,5,6] (by kernel_rfl) rfl (Stl_nil rfl) rfl rfl rfl (W1_wfK (W1_callE rfl rfl rfl rfl rfl Bod.h (keep_sv (x:=t.tests[g]) (hEr.get (hE29.get hgRB)) hog.g0 hog.g1 hog.e0 hog.e1 hG) (fun h10 hE10 hw10=>?_)))
       rw[<-hkTg]
       have hErt:=hEr.trans hE10
       have a1:=hErt.get k1
       have a4:=hErt.get k4
       have a8:=hErt.get k8
       have a9:=hErt.get k9
       have adg:=hErt.cell hdg
       refine Wp_eff (h1:=h10) [0,1,2,3,4,5,6,7,8,9,10,11,12,13,14,15,16,17] (by kernel_rfl) rfl (by refine Stl_new (i:=24) (nk:=.ptr) rfl rfl rfl rfl rfl (fun _ _ _=>N_alloc Zr.h) rfl ?_;refine t_r 19 ?_;refine t_l 17 ?_;refine t_u 16 ?_;refine t_l 15 ?_;refine t_f 14 ?_;refine t_l 13 ?_;refine t_f 12 ?_;refine t_i 11 ?_;refine t_m 10 ?_;refine t_l 9 ?_;refine t_f 8 ?_;refine t_l 0 ?_;exact Stl_nil rfl) rfl rfl rfl (W1_wfK (W1_callE rfl rfl rfl rfl rfl Bod.h (afterD_sv (t:=t) (bR:=bR) (i0:=dayN t g) (n:=i) (s:=keepT t g) (hr0.ext ((hEB.trans hE29).trans hErt)) hD hi2 hgd (keepT_ok hD hge hgt) hdn rfl) (fun h11 hE11 hw11=>?_)))
       have a9b:=hE11.get a9
       refine Wp_eff (h1:=h11) [0,1,2,3,4,5,6,7,8,9,10,11,12,13,14,15,16,17,18,19] (by kernel_rfl) rfl (by refine Stl_new (i:=24) (nk:=.ptr) rfl rfl rfl rfl rfl (fun _ _ _=>N_alloc Zr.h) rfl ?_;refine t_r 19 ?_;exact Stl_nil rfl) rfl rfl rfl (W1_wfK (W1_callE rfl rfl rfl rfl rfl Bod.h (meet_sv (a:=onS t (keepT t g) (dayN t g) (i-dayN t g)) (b:=keepT t q)) (fun h12 hE12 hw12=>?_)))
       have hUa:=Upd.mk' h12 h9'.nx (.cells [i64 0,i64 0] 51 false)
       have hE':=hUa.ext ((hErt.trans hE11).trans hE12) hw9 (Nat.le_refl _)
       refine z_m ?_;refine z_e ?_;refine z_e ?_
       refine Wp_eff (h1:=(h12.set h9'.nx (.cells [i64 0,i64 0] 51 false))) [0,1,2,3,4,5,6,7,8,9,10,11,12,13,14,15,16,17,18,19,20,21,22,24] (by kernel_rfl) rfl (by refine Stl_new (i:=24) (nk:=.ptr) rfl rfl rfl rfl rfl (fun _ _ _=>N_alloc Zr.h) rfl ?_;exact Stl_nil rfl) rfl rfl rfl (W1_wfK (W1_store rfl rfl Tsz.h rfl rfl hUa.at' rfl rfl rfl (fun h13 hU13 hw13=>?_)))
       have hE13:Ext h9' h13:=hU13.ext hE' hw9 (Nat.le_refl _)
       refine Wp_eff (h1:=h13) [0,1,2,3,4,5,6,7,8,9,10,11,12,13,14,15,16,17,18,19,20,21,22,23,24,25] (by kernel_rfl) rfl (by refine t_e 23 ?_;exact Stl_nil rfl) rfl rfl rfl (W1_op rfl rfl (A_assign rfl) ?_)
       refine Wp_end (h1:=h13) (Stl_nil rfl) rfl ?_
       have hl13:=hE13.get hl9
       rw[<-hAO2] at hl13
       have hX13:=hX9.trans (Exb.of hE13)
       have kb:h13.get b12=_:=hE13.get (hE79.get hO7.p1)
       refine zy ?_
       refine Wc_cond rfl (fun hc=>?_) (fun hc=>?_)
       ·refine zy ?_
        refine Wo_store rfl Tsz.h rfl rfl kb rfl rfl rfl fun h14 hU14=>?_
        refine zy ?_
        have hl14:=hU14.get (show lp2≠b12 by omega) hl13
        have hU15:=fun o=>Upd.mk' h14 lp2 o
        refine⟨some (.exit 4),.busy,none,_,_,_,_,_,_,_,rfl,hl14,.inr ⟨rfl,((hX13.mono fun c e=>.inl e).upd hU14 (.inr rfl)).upd (hU15 _) (.inl rfl),⟨_,(hU15 _).get (show b12≠lp2 by omega) hU14.at'⟩,_,_,_,_,_,_,_,(hU15 _).at'⟩⟩
       ·refine zy ?_
        exact⟨none,.busy,none,_,_,_,_,_,_,_,rfl,hl13,.inl ⟨rfl,hX13.upd (Upd.mk' h13 lp2 _) rfl,(Upd.mk' h13 lp2 _).at'⟩⟩
      ·rintro _ h' (⟨hX,hl⟩|⟨hX,⟨x,hbx⟩,fn,nt,e',ps,ag,bd,df,hl⟩)
       ·subst hrec2
        refine⟨.ready,none,_,_,_,_,_,_,_,hl,by simp,fun _=>?_,fun c hc=>nomatch hc⟩
        exact⟨rfl,rfl,(((Exb.of hEM).trans ((hX.mono fun c e=>.inr (by omega)).upd (Upd.mk' h' lp2 _) (.inr (Nat.le_refl _))))),⟨-1,(Upd.mk' h' lp2 _).get (show b12≠lp2 by omega) (hX.get (show ¬b12=lp2 by omega) (hEM.get hO7.p1))⟩,rfl,rfl,rfl,rfl,rfl,rfl,rfl,rfl,rfl,trivial⟩
       ·refine⟨.done,some (.exit 4),fn,nt,e',ps,ag,bd,df,hl,by simp,(fun hc=>nomatch hc),fun c hc=>?_⟩
        cases hc
        refine zy ?_
        exact⟨rfl,rfl,(((Exb.of hEM).trans ((hX.mono fun c e=>by omega).upd (Upd.mk' h' lp2 _) (.inr (Nat.le_refl _))))),⟨x,(Upd.mk' h' lp2 _).get (show b12≠lp2 by omega) hbx⟩,rfl,rfl,rfl,rfl,rfl,rfl,rfl,rfl,rfl,trivial⟩
     rintro _ m _ h8 ⟨rfl,rfl,hX8,⟨x,hbx⟩,hall⟩
     show Wc _ _ _ _ _ _ _
     refine Wc.le ?_ (Le.kn hall)
     replace hX8:=hX8.new hw7
     have hO8:=hO7.put (y:=ceI b12 [i64 x] 3 false) hw7 hE2.2.1 hX8 hbx (fun _ hc=>.inl hc)
     have hE8:=hO7.grows hX8 hE2 hWB
     refine Wc_wf fun hw8=>?_
     have k3:h8.get b3=_:=hO8.at 8 rfl
     have k5:h8.get b5=_:=hO8.at 10 rfl
     have ko:h8.get bo=_:=hO8.at 11 rfl
     have hc:=cellAt_cells ko hnq
     have hEa:=Ext.add hw8 (.cells [i64 (q:Nat),i64 x] 89 false)
     have hBl:(B++[(q,x)]).length=B.length+1:=by simp
     have hBm:bCells (B++[(q,x)])=bCells B++[i64 (q:Nat),i64 x]:=by simp[bCells]
     have hBb:B.length=st.bad.length:=by rw[<-hB2,List.length_map]
     refine zy ?_
     refine Wc_draw hmix [0,0,2,6,0,30,62,127,255] [0,1,2,3,4,5,6] (some 7) [([],(some 8)),([],none)] (by kernel_rfl) (by kernel_rfl) ?_
     refine z_l ?_;refine z_l ?_;refine Wp_pure rfl rfl rfl rfl rfl (fun _=>A_ix (k:=0) Und.h Tsz.h rfl rfl (Nat.succ_pos _)) ?_;refine z_l ?_;refine z_l ?_;refine z_b ?_
     refine Wp_new (nk:=.sl _ _) rfl rfl rfl rfl rfl (fun _ _ hs=>N_bs hs Und.h Tsz.h Zr.h rfl rfl rfl rfl rfl) ?_
     refine Wp_eff (h1:=(Heap.add h8 _)) [0,1,2,3,4,5,6] (by kernel_rfl) rfl (Stl_nil rfl) rfl rfl rfl (W1_wfK (W1_appendO (by':=16) (sz:=2) (k:=1) (n:=B.length) (l:=[i64 (q:Nat),i64 x]) rfl hWB (hE8.trans hEa) rfl rfl rfl rfl Und.h inferInstance rfl rfl ((hO8.ext hEa).pick 9 rfl) ((FreshSl.lit (h0:=hB) (n:=1) (sz:=2) Heap.get_add_same rfl hE8.2.1).src (dd:=.slice 89) Und.h (by intro k;simp)) rfl rfl (by omega) (by omega) (fun v9 h9' hO9 hE9 hw9=>?_)))
     obtain⟨bg,spg,rfl⟩:=sl_shape hO9.p1 (Nat.succ_pos _)
     rw[<-hBl,<-hBm] at hO9
     refine Wp_eff (h1:=h9') [0,1,2,3,4,5,6,7] (by kernel_rfl) rfl (Stl_nil rfl) rfl rfl rfl (W1_wfK (W1_storeO rfl hWB hE9 rfl Tsz.h rfl rfl ((hO9.unpick 9 (Nat.le_of_ble_eq_true rfl)).pick 8 rfl) rfl rfl rfl (fun h10 hO10 hE10 hw10=>?_)))
     refine Wp_end (h1:=h10) (Stl_nil rfl) rfl ?_
     rw[<-hBl] at hO10
     have hO11:Own hB h10 (LB st.now (.slice (some ⟨bg,0,spg⟩) (B++[(q,x)]).length (B++[(q,x)]).length) (B++[(q,x)]) oo (q::(R1'++fromD t (i+1))).length _ st.good):=(hO10.unpick 8 (Nat.le_of_ble_eq_true rfl)).tail.tail.tail
     have k5':h10.get b5=_:=hO11.at 7 rfl
     refine zy ?_
     refine Wo_do rfl rfl rfl rfl (A_sliceFrom (k:=1) Und.h Tsz.h rfl rfl rfl (by simp only[List.length_cons];omega) (Nat.le_refl _)) ?_
     refine zy ?_
     refine Wo_storeO hWB hE10 rfl Tsz.h rfl rfl (hO11.pick 7 rfl) rfl rfl rfl fun h11 hw11 hO12 hE11=>?_
     refine zy ?_
     refine⟨R1',Nat.lt_succ_self _,rfl,P1++[q],hP2,?_,rfl,rfl,rfl,rfl,rfl,rfl,rfl,rfl,trivial⟩
     rw[hfs]
     exact hnxt h11 ⟨st.now,st.good,st.bad++[q]⟩ _ (B++[(q,x)]) _ (by rw[List.map_append,hB2];rfl) (by show st.good.length+(st.bad++[q]).length=st.good.length+st.bad.length+1;rw[List.length_append,List.length_singleton];omega) hE11 hO12
  rintro _ m _ h1 ⟨rfl,rfl,⟨hE2,v3,v6,B,oo,p,hB2,hR2,hoo2,hnl,hO2⟩,hall⟩
  show Wc _ _ _ _ _ _ _
  refine Wc.le ?_ (Le.kn hall)
  have k2:h1.get b2=_:=hO2.at 3 rfl
  have k7:h1.get b7=_:=hO2.at 2 rfl
  refine zy ?_
  refine Wo_bs rfl rfl Und.h Tsz.h Zr.h rfl rfl rfl rfl rfl fun h3 hE3 hW3 hg3 hx3=>?_
  refine Wo_appendO (by':=16) (sz:=2) (k:=1) (n:=i) (l:=[i64 (stD t i).now.lo,i64 (stD t i).now.hi]) hWB (hE2.trans hE3) rfl rfl rfl rfl rfl Und.h inferInstance rfl rfl ((hO2.ext hE3).pick 4 rfl) ((FreshSl.lit (h0:=hB) (n:=1) (sz:=2) hg3 rfl hE2.2.1).src (dd:=.slice 51) Und.h (by intro k;simp)) rfl rfl (by omega) (by omega) fun v8 h4 hW4 hO4 hE4=>?_
  obtain⟨bv,spv,rfl⟩:=sl_shape hO4.p1 (Nat.succ_pos _)
  refine zy ?_
  refine Wo_storeO hWB hE4 rfl Tsz.h rfl rfl ((hO4.unpick 4 (Nat.le_of_ble_eq_true rfl)).pick 3 rfl) rfl rfl rfl fun h6 hw6 hO6 hE6=>?_
  have hO7:=hO6.unpick 3 (Nat.le_of_ble_eq_true rfl)
  have hl6:h6.get lp=some bz:=hO7.at 0 rfl
  rw[<-hAO] at hl6
  refine zy ?_
  refine⟨none,.busy,none,_,_,_,_,_,_,_,rfl,hl6,.inl ⟨rfl,?_⟩⟩
  obtain⟨hO8,hE8⟩:=Own.loSet hO7 hWB hE6 (Upd.mk' h6 lp (.loop .ready none 85 174 e #[38] _ _ r9))
  refine⟨hE8,.slice (some ⟨bv,0,spv⟩) (i+1) (i+1),v3,v6,B,oo,p,hB2,hR2,hoo2,hnl,?_⟩
  show Own hB _ [_,_,_,slI hB _ 51 2 (cellsF (i+1) (fwdS t)) (i+1),_,_,_,_,_,_,_,_,_,_,_,_]
  rw[cellsF_succ]
  exact hO8.sub (.cons_cons _ (.cons _ (.refl _)))
 ·rintro _ h10 (⟨hE1,v2,v3,v6,B,oo,p,hB1,hR1,hoo,hnl,hO1⟩|hf)
  rotate_left
  ·exact hf.elim
  have hl10:h10.get lp=some rec:=hO1.at 0 rfl
  subst hrec
  refine⟨.ready,none,_,_,_,_,_,_,_,hl10,by simp,fun _=>?_,fun c hc=>nomatch hc⟩
  generalize hAX:AO.loop LoopState.exhausted _ _ _ _ _ _ _ _=bx
  obtain⟨hO2,hE2⟩:=hO1.loSet hWB hE1 (Upd.mk' h10 lp bx)
  generalize h10.set lp bx=h11 at *
  have hO3:Own hB h11 [ceI b2 [v2] 84 false,slI hB v2 51 2 (cellsF (t.days.length+1) (fwdS t)) (t.days.length+1),ceI b3 [v3] 85 false,slI hB v3 89 2 (bCells B) B.length,loI r9 .defd]:=hO2.sub (.cons _ (.cons _ (.cons_cons _ (.cons_cons _ (.cons_cons _ (.cons_cons _ (.cons _ (.cons _ (.cons _ (.cons _ (.cons _ (.cons _ (.cons _ (.cons _ (.cons _ (.cons_cons _ .slnil))))))))))))))))
  obtain⟨bv,spv,opv,rfl,hgv,_,hbv⟩:=FreshSl.blk (h:=h11) hO3.p2 (Nat.succ_pos _)
  have hO4:=hO3.up2.as (y:=ceI bv (cellsF (t.days.length+1) (fwdS t)) 51 opv) (fun _=>hgv) (fun c hc=>by rw[show c=bv from hc];rfl)
  clear hO1 hO2 hO3 hE1 hl10 hgv hAX
  clear h10
  show Wc _ _ _ _ _ _ _
  refine Wc_wf fun hw11=>?_
  have k1:=hE2.get hg1
  have hgR2:=hE2.get hgRB
  refine zy ?_
  refine Wo_callr rfl rfl rfl rfl rfl Bod.h rfl rfl backS_sv ?_
  rintro _ h12 ⟨c6,rfl,hE12,hnc6,hgc6⟩
  have hO5:=hO4.newCe hw11 hE2.2.1 hE12 hgc6 hnc6
  replace hE2:=hE2.trans hE12
  clear hO4 hE12 hnc6 hgc6 k1 hgR2
  refine Wo_wf fun hw12=>?_
  refine zy ?_
  refine Wc_rangeL rfl rfl Bod.h (fun e2 hs2 hM hEM hWM hnM hMr hMl=>?_)
  generalize hlp3:h12.nx+1=lp3 at *
  have hOM:=hO5.join hw12 hE2.2.1 hEM (Own.two hMl hMr (by omega) (Nat.le_refl _) (by omega))
  replace hE2:=hE2.trans hEM
  generalize hr10:h12.nx=r10 at *
  generalize hrec3:AO.loop LoopState.ready none _ _ _ _ _ _ _=rec3 at hMl hOM
  let L3:AO->(Nat->Sp)->List It:=fun o f=>[loI lp3 o,loI r10 .defd,ceI c6 [.slice aS t.days.length cS] 84 false,ceI bv (cellsF (t.days.length+1) f) 51 opv,ceI b2 [.slice (some ⟨bv,0,spv⟩) (t.days.length+1) (t.days.length+1)] 84 false,ceI b3 [v3] 85 false,slI hB v3 89 2 (bCells B) B.length,loI r9 .defd]
  refine (backIterS_sv (l:=lp3) (c1:=c6) (a:=aS) (c:=cS) (n:=t.days.length) (f:=forceAt t) (by omega) (fun k h'=>Ext hB h'/\∃f,BackL t f (t.days.length-k)/\(∀j,j<t.days.length-k->f j=fwdS t j)/\Own hB h' (L3 rec3 f)) (fun _=>False) ⟨hE2,fwdS t,⟨rfl,fun j h1 h2=>absurd h1 (by omega)⟩,fun _ _=>rfl,hOM⟩ (fun k h' hJk=>?_) (fun k h' hk hJk=>?_)).ret ?_
  ·obtain⟨hE3,f,_,_,hO6⟩:=hJk
   exact⟨hO6.at 2 rfl,RowsAt.ext (R:=SpR) (fun x _=>x) hSs (hEB.trans hE3)⟩
  ·obtain⟨hE3,f,hBL,hfe,hO6⟩:=hJk
   have hl:h'.get lp3=some rec3:=hO6.at 0 rfl
   subst hrec3
   have hki2:t.days.length-(k+1)=t.days.length-1-k:=by omega
   have hki:t.days.length-k=t.days.length-1-k+1:=by omega
   rw[hki2]
   rw[hki] at hBL hfe
   have hid:t.days.length-1-k<t.days.length:=by omega
   generalize t.days.length-1-k=i at *
   clear hki hki2 hk
   have hst:=force_ok hD (i:=i) hid
   have hA:=fwd_ok hD (i:=i) (by omega)
   have hIn:=fwd_in hD (i:=i) hid
   obtain⟨hBo,hB1',hB2'⟩:=hBL.ok' hD (Nat.le_refl _) (show i+1<=t.days.length by omega)
   have hfi:=hfe i (Nat.lt_succ_self _)
   have q1:leastS t.rule (forceAt t i) (fwdS t i).lo<=(f (i+1)).lo:=Int.le_trans hIn.1 hB1'
   have q2:(f (i+1)).hi<=mostS t.rule (forceAt t i) (fwdS t i).hi:=Int.le_trans hB2' hIn.2
   have a1:=hA.lo
   have a2:=hA.le
   have a3:=hA.hi
   refine Yd_intro hl hs2 rfl rfl ?_
   refine Wc_wf fun hw'=>?_
   refine zy ?_
   refine Wo_allocStore rfl rfl Zr.h Tsz.h rfl (fun _=>rfl) rfl rfl rfl fun h13 hE13 hW13 hg18 hn13=>?_
   have hl13:=hE13.get hl
   refine Wo_nil ⟨rfl,rfl,_,_,_,_,_,_,_,_,hl13,?_⟩
   have hO7:=(hO6.newCe hw' hE3.2.1 hE13 hg18 (Nat.le_refl _)).up2
   replace hE3:=hE3.trans hE13
   generalize h'.nx=b18 at *
   generalize hAO3:AO.loop LoopState.busy _ _ _ _ _ _ _ _=bz3
   obtain⟨hO8,hE8⟩:=hO7.loSet hWB hE3 (Upd.mk' h13 lp3 bz3)
   generalize h13.set lp3 bz3=h14 at *
   clear hO7 hO6 hE3 hl13 hl hE13 hg18 hn13 hW13 hw'
   clear h13 h'
   refine Wc_wf fun hw14=>?_
   have k2:h14.get b2=_:=hO8.at 5 rfl
   have kv:h14.get bv=some (.cells (cellsF (t.days.length+1) f) 51 opv):=hO8.at 4 rfl
   have krow:=cellsF_row kv (show i+1<t.days.length+1 by omega)
   refine zy ?_
   refine Wc_draw hmix [0,0,3,0,0,16,56,120,0,0,775,2047] [0,1,2,3,4,5,6,7,8,9] (some 10) [([],(some 11)),([],none)] (by kernel_rfl) (by kernel_rfl) ?_
   refine z_l ?_;refine z_m ?_;refine Wp_pure rfl rfl rfl rfl rfl (fun _=>A_ix (k:=i) Und.h Tsz.h rfl rfl (by omega)) ?_;refine z_l ?_;refine z_m ?_;refine z_y ?_;refine Wp_pure rfl rfl rfl rfl rfl (fun _=>A_ix (k:=i+1) Und.h Tsz.h rfl rfl (by omega)) ?_;refine z_r ?_
   refine Wp_new (nk:=.ptr) rfl rfl rfl rfl rfl (fun _ _ _=>N_alloc Zr.h) ?_
   refine Wp_new (nk:=.ptr) rfl rfl rfl rfl rfl (fun _ _ _=>N_alloc Zr.h) ?_
   refine Wp_eff (h1:=(Heap.add (Heap.add h14 _) _)) [0,1,2,8,9] (by kernel_rfl) rfl (Stl_nil rfl) rfl rfl rfl (W1_wfK (W1_store rfl rfl Tsz.h rfl rfl (show (Heap.add (Heap.add h14 (.cells [.pointer none] 183 false)) (.cells [i64 0,i64 0] 51 false)).get h14.nx=some (.cells [.pointer none] 183 false) from (Heap.get_add_other (show h14.nx≠h14.nx+1 by omega)).trans Heap.get_add_same) rfl rfl rfl (fun h15 hU15 hw15=>?_)))
   have hE15:Ext h14 h15:=hU15.ext ((Ext.add hw14 _).trans (Ext.add (hw14.add _) _)) hw14 (Nat.le_refl _)
   have kp:=hU15.at'
   have k20:h15.get (h14.nx+1)=some (.cells [i64 0,i64 0] 51 false):=hU15.get (show h14.nx+1≠h14.nx by omega) Heap.get_add_same
   have k2b:=hE15.get k2
   have krowb:=hE15.row krow
   refine Wp_eff (h1:=h15) [0,1,2,3,4,5,6,7,8,9,10] (by kernel_rfl) rfl (by refine t_r 7 ?_;refine Stl_pure (i:=6) rfl rfl rfl rfl rfl (fun _=>A_ix (k:=i+1) Und.h Tsz.h rfl rfl (by omega)) rfl ?_;refine t_y 5 ?_;refine t_m 4 ?_;refine t_l 3 ?_;exact Stl_nil rfl) rfl rfl rfl (W1_wfK (W1_store rfl rfl Tsz.h rfl rfl k20 rfl rfl rfl (fun h16 hU16 hw16=>?_)))
   have hE16:Ext h14 h16:=hU16.ext hE15 hw14 (Nat.le_succ _)
   refine Wp_end (h1:=h16) (Stl_nil rfl) rfl ?_
   have kb:h16.get (h14.nx+1)=some (.cells [i64 (f (i+1)).lo,i64 (f (i+1)).hi] 51 false):=hU16.at'
   replace kp:h16.get h14.nx=some (.cells [.pointer (some ⟨bv,0+i*2,none⟩)] 183 false):=hU16.get (show h14.nx≠h14.nx+1 by omega) kp
   have hO9:=hO8.ext hE16
   have hE9:=hE8.trans hE16
   clear hU16 hU15 k20 k2b krowb hE15 hE16 hO8 hE8 hw15 hw14 k2 kv krow
   clear h15
   have kv:h16.get bv=some (.cells (cellsF (t.days.length+1) f) 51 opv):=hO9.at 4 rfl
   have k18:h16.get b18=_:=hO9.at 1 rfl
   obtain⟨kc0,kc1⟩:=cellsF_cell kv (show i<t.days.length+1 by omega)
   rw[hfi] at kc0 kc1
   refine zy ?_
   refine Wc_draw hmix [0,1,3,7,0,16,48,112,255,511,1023] [0,1,2,3,4,5,6,7,8,9] (some 10) [([],none)] (by kernel_rfl) (by kernel_rfl) ?_
   refine z_l ?_;refine z_q ?_;refine z_f ?_;refine z_l ?_;refine z_l ?_;refine z_q ?_;refine z_f ?_;refine z_l ?_;refine z_u ?_;refine z_y ?_
   refine Wp_eff [0,1,2,3,4,5,6,7,8,9] (by kernel_rfl) rfl (Stl_nil rfl) rfl nb rfl (W1_op rfl rfl (A_assign rfl) ?_)
   refine Wp_end (Stl_nil rfl) nb' ?_
   obtain⟨n,hn⟩:∃n:Nat,(fwdS t i).hi-(fwdS t i).lo+1=(n:Int):=⟨((fwdS t i).hi-(fwdS t i).lo+1).toNat,by omega⟩
   rw[hn]
   refine zy ?_
   refine Wo_callr rfl rfl rfl rfl rfl Bod.h rfl rfl (search_sv (n:=n) (p:=fun k=>decide ((f (i+1)).lo<=mostS t.rule (forceAt t i) ((fwdS t i).lo+(k:Nat)))) (g:=124) (fb:=[]) (cb:=[ptr b1,ptr b18,ptr h14.nx,ptr (h14.nx+1)]) (by omega) Bod.h (fun x y hxy hy hp=>?_) (fun x h17 hx hE17=>?_)) ?_
   ·have hm:=most_mono hD.rule hst (n:=(fwdS t i).lo+(x:Nat)) (m:=(fwdS t i).lo+(y:Nat)) (by omega) (by omega) (by omega)
    exact decide_eq_true (Int.le_trans (of_decide_eq_true hp) hm)
   ·exact gainHi_sv (b:=f (i+1)) (s:=forceAt t i) (hr0.ext (hEB.trans (hE9.trans hE17))) hD hst ((hE9.trans hE17).get hg1) (hE17.get k18) (hE17.get kp) (hE17.cell kc0) (hE17.get kb) a1 (by omega)
   rintro _ h17 ⟨lo,rfl,l0,l1,l2,hE17⟩
   replace hE9:=hE9.trans hE17
   have hO10:=hO9.ext hE17
   replace k18:=hE17.get k18
   replace kp:=hE17.get kp
   replace kb:=hE17.get kb
   replace kc0:=hE17.cell kc0
   clear hO9 hE17 kc1 kv
   clear hw16
   clear h16
   refine zy ?_
   refine Wo_callr rfl rfl rfl rfl rfl Bod.h rfl rfl (search_sv (n:=n) (p:=fun k=>decide ((f (i+1)).hi<leastS t.rule (forceAt t i) ((fwdS t i).lo+(k:Nat)))) (g:=125) (fb:=[]) (cb:=[ptr b1,ptr b18,ptr h14.nx,ptr (h14.nx+1)]) (by omega) Bod.h (fun x y hxy hy hp=>?_) (fun x h18 hx hE18=>?_)) ?_
   ·have hm:=least_mono hD.rule hst (n:=(fwdS t i).lo+(x:Nat)) (m:=(fwdS t i).lo+(y:Nat)) (by omega) (by omega) (by omega)
    exact decide_eq_true (Int.lt_of_lt_of_le (of_decide_eq_true hp) hm)
   ·exact gainLo_sv (b:=f (i+1)) (s:=forceAt t i) (hr0.ext (hEB.trans (hE9.trans hE18))) hD hst ((hE9.trans hE18).get hg1) (hE18.get k18) (hE18.get kp) (hE18.cell kc0) (hE18.get kb) a1 (by omega)
   rintro _ h18 ⟨hi,rfl,u0,u1,u2,hE18⟩
   replace hE9:=hE9.trans hE18
   have hO11:=hO10.ext hE18
   replace kp:=hE18.get kp
   replace kc0:=hE18.cell kc0
   clear hO10 hE18 kb k18
   clear h17
   have hbk:=back_search hD.rule hst hA hBo q1 q2 hn.symm l0 l1 l2 u0 u1 u2
   refine zy ?_
   refine Wc_draw hmix [0,0,2,6,14,0,62,0,128,384,896,0,3968,8064,16382,32767,65535] [0,1,2,3,4,5,6,7,8,9,10,11,12,13,14,15] (some 16) [([],none)] (by kernel_rfl) (by kernel_rfl) ?_
   refine z_l ?_;refine z_l ?_;refine z_q ?_;refine z_f ?_;refine z_l ?_;refine z_m ?_;refine z_y ?_;refine z_l ?_;refine z_q ?_;refine z_f ?_;refine z_l ?_;refine z_m ?_;refine z_y ?_;refine z_u ?_;refine z_b ?_;refine z_q ?_
   refine Wp_eff [0,1,2,3,4,5,6,7,8,9,10,11,12,13,14,15] (by kernel_rfl) rfl (Stl_nil rfl) rfl nb rfl (W1_wfK (W1_storeO rfl hWB hE9 rfl Tsz.h rfl rfl (hO11.pick 4 rfl) rfl rfl (lay_sp (show i<t.days.length+1 by omega) _ _) (fun h19 hO12 hE10 hw19=>?_)))
   refine Wp_end (Stl_nil rfl) nb' ?_
   have hO13:=hO12.unpick 4 (Nat.le_of_ble_eq_true rfl)
   have hl19:h19.get lp3=some bz3:=hO13.at 0 rfl
   rw[<-hAO3] at hl19
   refine zy ?_
   refine⟨none,.busy,none,_,_,_,_,_,_,_,rfl,hl19,.inl ⟨rfl,?_⟩⟩
   obtain⟨hO14,hE14⟩:=Own.loSet hO13 hWB hE10 (Upd.mk' h19 lp3 (.loop .ready none 85 174 e2 #[130,131] _ _ r10))
   refine⟨hE14,updS f i ⟨(fwdS t i).lo+(lo:Nat),(fwdS t i).lo+(hi:Nat)-1⟩,⟨?_,fun j h1 h2=>?_⟩,fun j hj=>?_,hO14.sub (.cons_cons _ (.cons _ (.refl _)))⟩
   ·rw[updS_ne (by omega)];exact hBL.last
   ·by_cases ej:j=i
    ·subst ej
     rw[updS_at,updS_ne (by omega)]
     exact hbk
    ·rw[updS_ne ej,updS_ne (by omega)]
     exact hBL.back j (by omega) h2
   ·rw[updS_ne (by omega)];exact hfe j (by omega)
  ·rintro _ h20 (⟨hE3,f,hBL,hfe,hO6⟩|hf)
   rotate_left
   ·exact hf.elim
   have hl20:h20.get lp3=some rec3:=hO6.at 0 rfl
   subst hrec3
   refine⟨.ready,none,_,_,_,_,_,_,_,hl20,by simp,fun _=>?_,fun c hc=>nomatch hc⟩
   generalize hAY:AO.loop LoopState.exhausted _ _ _ _ _ _ _ _=by3
   obtain⟨hO7,hE7⟩:=hO6.loSet hWB hE3 (Upd.mk' h20 lp3 by3)
   generalize h20.set lp3 by3=h21 at *
   clear hO6 hE3 hl20 hAY
   clear h20
   rw[Nat.sub_self] at hBL
   show Wc _ _ _ _ _ _ _
   obtain⟨a3',c3',rfl,_⟩:=bRows (show FreshSl hB h21 v3 89 2 (bCells B) B.length from hO7.at 6 rfl)
   have k2:h21.get b2=_:=hO7.at 4 rfl
   have k3:h21.get b3=_:=hO7.at 5 rfl
   refine zy ?_
   refine Wc_draw hmix [0,0,1,7] [0,1] (some 2) [([],(some 3)),([],none)] (by kernel_rfl) (by kernel_rfl) ?_
   refine z_l ?_;refine z_l ?_
   refine Wp_eff (h1:=h21) [0] (by kernel_rfl) rfl (Stl_nil rfl) rfl rfl rfl (W1_wfK (W1_storeO rfl hWB hE7 rfl Tsz.h rfl rfl (hO7.pick 4 rfl) rfl rfl rfl (fun h22 hO8 hE8 hw22=>?_)))
   have hO8b:=hO8.unpick 4 (Nat.le_of_ble_eq_true rfl)
   have k3b:h22.get b3=_:=hO8b.at 5 rfl
   refine Wp_eff (h1:=h22) [0,1,2] (by kernel_rfl) rfl (by refine t_l 1 ?_;exact Stl_nil rfl) rfl rfl rfl (W1_wfK (W1_storeO rfl hWB hE8 rfl Tsz.h rfl rfl (hO8b.pick 5 rfl) rfl rfl rfl (fun h23 hO9 hE9 hw23=>?_)))
   refine Wp_end (h1:=h23) (Stl_nil rfl) rfl ?_
   have hO10:Own hB h23 (L3 by3 f):=hO9.unpick 5 (Nat.le_of_ble_eq_true rfl)
   have hC:Colls hB h23 [r10,r9]:=((Colls.nil hB h23).cons (hO10.at 7 rfl) (hO10.lo _ (List.mem_of_getElem? (i:=7) rfl) r9 rfl) (fun hm=>nomatch hm)).cons (hO10.at 1 rfl) (hO10.lo _ (List.mem_of_getElem? (i:=1) rfl) r10 rfl) (fun hm=>by
    have e:=List.mem_singleton.1 hm
    exact (List.pairwise_iff_getElem.1 hO10.ap 1 7 (Nat.le_of_ble_eq_true rfl) (Nat.le_of_ble_eq_true rfl) (by decide)) r10 rfl e)
   have kv:=hC.get (show h23.get bv=some (.cells (cellsF (t.days.length+1) f) 51 opv) from hO10.at 3 rfl)
   have k2c:=hC.get (show h23.get b2=some (.cells [.slice (some ⟨bv,0,spv⟩) (t.days.length+1) (t.days.length+1)] 84 false) from hO10.at 4 rfl)
   have k3c:=hC.get (show h23.get b3=some (.cells [.slice a3' B.length c3'] 85 false) from hO10.at 5 rfl)
   obtain⟨a4,c4',e4,hBr⟩:=bRows (FreshSl.del (show FreshSl hB h23 (.slice a3' B.length c3') 89 2 (bCells B) B.length from hO10.at 6 rfl) hC)
   cases e4
   refine zy ?_
   exact Wc_ret (Lv_retC (rs:=[r10,r9]) hC.nd hC.defd (resk_cell rfl (aload_cell OneC.h (cellAt_cells k2c rfl)) (resk_cell rfl (aload_cell OneC.h (cellAt_cells k3c rfl)) rfl)) ⟨⟨some ⟨bv,0,spv⟩,a3',c3',f,B,rfl,cellsF_rows kv,hBL,hB1,hBr⟩,hEB.trans (hC.ext0 hE9 hWB)⟩)
end Go.Dw
/- EW: contracts: lost, Lost and Due of the program. -/
namespace Go.Dw
open Go Go.Dx Go.Proofs
set_option maxRecDepth 100000
def firstS (p:Sp->Bool)(first:Int):List Sp->Int
 | []=>-1
 | s::l=>if p s=true then first else firstS p (first+1) l
theorem firstS_lo (lost:Int):∀(l:List Sp)(first:Int),firstS (fun s=>decide (lost<=s.hi)) first l=lostLo lost first l
 | [],_=>rfl
 | s::l,first=>by
  rw[firstS,lostLo,firstS_lo lost l]
  simp only[decide_eq_true_eq]
theorem firstS_hi (lost:Int):∀(l:List Sp)(first:Int),firstS (fun s=>decide (lost<=s.lo)) first l=lostHi lost first l
 | [],_=>rfl
 | s::l,first=>by
  rw[firstS,lostHi,firstS_hi lost l]
  simp only[decide_eq_true_eq]
theorem firstS_rng (p:Sp->Bool):∀(l:List Sp){first:Int},firstS p first l = -1\/(first<=firstS p first l/\firstS p first l<first+l.length)
 | [],_=>.inl rfl
 | s::l,first=>by
  rw[firstS]
  split
  ·exact .inr ⟨Int.le_refl _,by simp;omega⟩
  ·rcases firstS_rng p l (first:=first+1) with g|g
   ·exact .inl g
   ·exact .inr ⟨by omega,by simp;omega⟩
theorem firstS_add (p:Sp->Bool)(a:Int):∀(l:List Sp){c:Int},0<=c->firstS p (a+c) l=if 0<=firstS p c l then a+firstS p c l else -1
 | [],_,_=>rfl
 | s::l,c,hc=>by
  rw[firstS,firstS]
  by_cases h:p s=true
  ·rw[if_pos h,if_pos h,if_pos hc]
  ·rw[if_neg h,if_neg h,show a+c+1=a+(c+1) by omega,firstS_add p a l (by omega)]
theorem firstS_day (p:Sp->Bool)(a:Int)(l:List Sp):firstS p a l=if 0<=firstS p 0 l then a+firstS p 0 l else -1:=by
 have:=firstS_add p a l (c:=0) (Int.le_refl _)
 rwa [Int.add_zero] at this
theorem indexF_sv {p:Sp->Bool}{g:FuncId}{fb cb:List Value}{a:Option Addr}{c:Nat}{L:List Sp}{h:Heap}(hn:L.length<=10000000)(hR:RowsAt 2 SpR h a L)(hbd:bodied Tryz.prog g=true)
  (hf:∀s h1,Ext h h1->Sv Tryz.prog g (fb++([spV s]++cb)) h1 (RetP fun v h2=>v=.bool (p s)/\Ext h1 h2)) :
  Sv Tryz.prog 151 [.slice a L.length c,.func (.func g) ⟨fb⟩ ⟨cb⟩] h (RetP fun v h'=>v=i64 (firstS p 0 L)/\Ext h h'):=by
 refine Sv_enter Tryz.func151 rfl (by rw[Tryz.ntmps151];rfl) ?_;show Wc Tryz.prog ⟨151,19,none⟩ _ _ _ _ _
 refine zy ?_
 refine Wc_loop (fun (i:Nat) m ds h'=>ds=[]/\i<=L.length/\firstS p 0 L=firstS p (i:Nat) (L.drop i)/\Ext h h'/\AllK m [(0,.slice a L.length c),(1,.func (.func g) ⟨fb⟩ ⟨cb⟩),(7,i64 (L.length:Nat)),(8,i64 (i:Nat))]) (fun i=>L.length-i) 0 ?_ ?_
 ·exact⟨rfl,Nat.zero_le _,rfl,Ext.refl _,rfl,rfl,rfl,rfl,trivial⟩
 rintro i m ds h1 ⟨rfl,hi,hS,hE,hall⟩
 refine Wc.le ?_ (Le.kn hall)
 refine zy ?_
 refine Wo_dec rfl rfl rfl rfl (A_lss rfl rfl) (fun hlt=>?_) (fun hlt=>?_)
 rotate_left
 ·have:i=L.length:=by omega
  subst this
  rw[List.drop_length] at hS
  refine zy ?_
  exact Wc_ret (Lv_ret rfl ⟨by rw[hS];rfl,hE⟩)
 have hi':i<L.length:=by omega
 rw[List.drop_eq_getElem_cons hi',firstS] at hS
 obtain⟨b,o,oa,rfl,hrow0,_⟩:=SpR.at hR hi'
 have hrow:=hE.row hrow0
 refine zy ?_
 refine Wo_do rfl rfl rfl rfl (A_ix Und.h Tsz.h rfl rfl) ?_
 refine zy ?_
 refine Wo_callr rfl rfl rfl rfl rfl hbd rfl rfl (hf L[i] h1 hE) ?_
 rintro _ h2 ⟨rfl,hE2⟩
 generalize L[i]=s at *
 cases hp:p s
 ·rw[hp,if_neg Bool.false_ne_true] at hS
  refine zy ?_
  exact⟨i+1,(by show L.length-(i+1)<L.length-i;omega),rfl,hi',hS,hE.trans hE2,rfl,rfl,rfl,rfl,trivial⟩
 ·rw[hp,if_pos rfl] at hS
  refine zy ?_
  exact Wc_ret (Lv_ret rfl ⟨by rw[hS];rfl,hE.trans hE2⟩)
theorem dayF_sv {p:Sp->Bool}{t:DTask}{bR b1 b3:Nat}{g:FuncId}{fb cb:List Value}{a:Option Addr}{c:Nat}{L:List Sp}{h:Heap}(hr:DReelAt h bR t)(hD:DOk t)(g1:h.get b1=some (.cells [ptr bR] 141 false))(g3:h.get b3=some (.cells [.slice a L.length c] 84 false))(hn:L.length<=401)(hR:RowsAt 2 SpR h a L)(hbd:bodied Tryz.prog g=true)
  (hf:∀s h1,Ext h h1->Sv Tryz.prog g (fb++([spV s]++cb)) h1 (RetP fun v h2=>v=.bool (p s)/\Ext h1 h2)) :
  Sv Tryz.prog 150 [.func (.func g) ⟨fb⟩ ⟨cb⟩,ptr b3,ptr b1] h (RetP fun v h'=>v=i64 (firstS p t.first L)/\Ext h h'):=by
 have hr0:=hr
 obtain⟨ah,ch,aw,cw,g0,g1',g2',ad,cd,ats,ct,aS,cS,op,hge,hgR,hPh,hPw,hDs,hTs,hSs⟩:=hr
 have hf0:=hD.first0
 have hf1:=hD.last
 have hrg:=firstS_rng p L (first:=0)
 rw[firstS_day]
 refine Sv_enter Tryz.func150 rfl (by rw[Tryz.ntmps150];rfl) ?_;show Wc Tryz.prog ⟨150,18,none⟩ _ _ _ _ _
 refine zy ?_
 refine Wo_callr rfl rfl rfl rfl rfl Bod.h rfl rfl (indexF_sv (p:=p) (by omega) hR hbd hf) ?_
 rintro _ h2 ⟨rfl,hE2⟩
 generalize firstS p 0 L=r at *
 have g12:=hE2.get g1
 have gR2:=hE2.get hgR
 refine zy ?_
 refine Wo_dec rfl rfl rfl rfl (A_geq rfl rfl) (fun hr1=>?_) (fun hr1=>?_)
 ·have hr1:0<=r:=hr1
  rw[if_pos hr1]
  refine zy ?_
  exact Wc_ret (Lv_ret rfl ⟨rfl,hE2⟩)
 ·rw[if_neg (show ¬0<=r from hr1)]
  refine zy ?_
  exact Wc_ret (Lv_ret rfl ⟨rfl,hE2⟩)
theorem isHi_sv {t:DTask}{bR b1:Nat}{s:Sp}{h:Heap}(hr:DReelAt h bR t)(g1:h.get b1=some (.cells [ptr bR] 141 false)):Sv Tryz.prog 152 [spV s,ptr b1] h (RetP fun v h'=>v=.bool (decide (t.rule.lost<=s.hi))/\Ext h h'):=by
 obtain⟨ah,ch,aw,cw,g0,g1',g2',ad,cd,ats,ct,aS,cS,op,hge,hgR,hPh,hPw,hDs,hTs,hSs⟩:=hr
 refine Sv_enter Tryz.func152 rfl (by rw[Tryz.ntmps152];rfl) ?_;show Wc Tryz.prog ⟨152,12,none⟩ _ _ _ _ _
 refine zy ?_
 refine Wo_box rfl rfl rfl fun h1 hE1 hW1 hg2 hn1=>?_
 have k1:=hE1.get g1
 have kR:=hE1.get hgR
 refine zy ?_
 refine Wc_draw hmix [0,1,0,4,12,28,60,127,255] [0,1,2,3,4,5,6,7] (some 8) [([],none)] (by kernel_rfl) (by kernel_rfl) ?_
 refine z_f ?_;refine z_l ?_;refine z_l ?_;refine z_q ?_;refine z_f ?_;refine z_f ?_;refine z_l ?_;refine Wp_pure rfl rfl rfl rfl rfl (fun _=>A_geq rfl rfl) ?_
 refine Wp_eff [0,1,2,3,4,5,6,7] (by kernel_rfl) rfl (Stl_nil rfl) rfl nb rfl (W1_op rfl rfl (A_assign rfl) ?_)
 refine Wp_end (Stl_nil rfl) nb' ?_
 refine zy ?_
 exact Wc_ret (Lv_ret rfl ⟨rfl,hE1⟩)
theorem isLo_sv {t:DTask}{bR b1:Nat}{s:Sp}{h:Heap}(hr:DReelAt h bR t)(g1:h.get b1=some (.cells [ptr bR] 141 false)):Sv Tryz.prog 153 [spV s,ptr b1] h (RetP fun v h'=>v=.bool (decide (t.rule.lost<=s.lo))/\Ext h h'):=by
 obtain⟨ah,ch,aw,cw,g0,g1',g2',ad,cd,ats,ct,aS,cS,op,hge,hgR,hPh,hPw,hDs,hTs,hSs⟩:=hr
 refine Sv_enter Tryz.func153 rfl (by rw[Tryz.ntmps153];rfl) ?_;show Wc Tryz.prog ⟨153,12,none⟩ _ _ _ _ _
 refine zy ?_
 refine Wo_box rfl rfl rfl fun h1 hE1 hW1 hg2 hn1=>?_
 have k1:=hE1.get g1
 have kR:=hE1.get hgR
 refine zy ?_
 refine Wc_draw hmix [0,1,0,4,12,28,60,127,255] [0,1,2,3,4,5,6,7] (some 8) [([],none)] (by kernel_rfl) (by kernel_rfl) ?_
 refine z_f ?_;refine z_l ?_;refine z_l ?_;refine z_q ?_;refine z_f ?_;refine z_f ?_;refine z_l ?_;refine Wp_pure rfl rfl rfl rfl rfl (fun _=>A_geq rfl rfl) ?_
 refine Wp_eff [0,1,2,3,4,5,6,7] (by kernel_rfl) rfl (Stl_nil rfl) rfl nb rfl (W1_op rfl rfl (A_assign rfl) ?_)
 refine Wp_end (Stl_nil rfl) nb' ?_
 refine zy ?_
 exact Wc_ret (Lv_ret rfl ⟨rfl,hE1⟩)
theorem lost_sv {t:DTask}{bR:Nat}{h:Heap}(hr:DReelAt h bR t)(hD:DOk t) :
  Sv Tryz.prog 111 [ptr bR] h (RetP fun v h'=>(∃f,BackL t f 0/\v=spV ⟨lostLo t.rule.lost t.first (knownL t f),lostHi t.rule.lost t.first (knownL t f)⟩)/\Ext h h'):=by
 have hd1:=hD.days1
 refine Sv_wf fun hw=>?_
 refine Sv_enter Tryz.func111 rfl (by rw[Tryz.ntmps111];rfl) ?_;show Wc Tryz.prog ⟨111,19,none⟩ _ _ _ _ _
 refine zy ?_
 refine Wo_box rfl rfl rfl fun h1 hE1 hW1 hg1 hn1=>?_
 refine Wo_alloc rfl rfl Zr.h fun h2 hE2 hW2 hg2 hn2=>?_
 have hl2:h.nx<=h1.nx:=hE1.2.1
 replace hg1:=hE2.get hg1
 replace hE1:=hE1.trans hE2
 clear hE2 hW1 hW2 hn1
 generalize h.nx=b1 at hg1
 generalize hb2:h1.nx=b2 at *
 refine zy ?_
 refine Wo_callr rfl rfl rfl rfl rfl Bod.h rfl rfl (known_sv (hr.ext hE1) hD) ?_
 rintro _ h3 ⟨⟨a,a3,c3,f,B,rfl,hR,hBL,_,_⟩,hE3⟩
 replace hg1:=hE3.get hg1
 replace hg2:=hE3.get hg2
 replace hE1:=hE1.trans hE3
 clear hE3
 have hkl:=knownL_len t f
 refine zy ?_
 refine Wo_allocStore rfl rfl Zr.h Tsz.h rfl (fun _=>rfl) rfl rfl rfl fun h4 hE4 hW4 hg3 hn4=>?_
 rw[<-hkl] at hg3
 replace hg1:=hE4.get hg1
 replace hg2:=hE4.get hg2
 replace hR:=RowsAt.ext (R:=SpR) (fun x _=>x) hR hE4
 replace hE1:=hE1.trans hE4
 generalize h3.nx=b3 at *
 clear hE4 hW4 hn4
 refine zy ?_
 refine Wo_callr rfl rfl rfl rfl rfl Bod.h rfl rfl (dayF_sv (p:=fun s=>decide (t.rule.lost<=s.hi)) (t:=t) (bR:=bR) (g:=152) (fb:=[]) (cb:=[ptr b1]) (L:=knownL t f) (hr.ext hE1) hD hg1 hg3 (by omega) hR Bod.h (fun s k hk=>isHi_sv (hr.ext (hE1.trans hk)) (hk.get hg1))) ?_
 rintro _ h5 ⟨rfl,hE5⟩
 replace hg1:=hE5.get hg1
 replace hg2:=hE5.get hg2
 replace hg3:=hE5.get hg3
 replace hR:=RowsAt.ext (R:=SpR) (fun x _=>x) hR hE5
 replace hE1:=hE1.trans hE5
 refine zy ?_
 refine Wo_callr rfl rfl rfl rfl rfl Bod.h rfl rfl (dayF_sv (p:=fun s=>decide (t.rule.lost<=s.lo)) (t:=t) (bR:=bR) (g:=153) (fb:=[]) (cb:=[ptr b1]) (L:=knownL t f) (hr.ext hE1) hD hg1 hg3 (by omega) hR Bod.h (fun s k hk=>isLo_sv (hr.ext (hE1.trans hk)) (hk.get hg1))) ?_
 rintro _ h6 ⟨rfl,hE6⟩
 replace hg2:=hE6.get hg2
 replace hE1:=hE1.trans hE6
 rw[firstS_lo,firstS_hi]
 refine zy ?_
 refine Wo_store rfl Tsz.h rfl rfl hg2 rfl rfl rfl fun h7 hU7=>?_
 have hg7:=hU7.at'
 refine zy ?_
 exact Wc_ret (Lv_ret (vs:=[spV ⟨lostLo t.rule.lost t.first (knownL t f),lostHi t.rule.lost t.first (knownL t f)⟩]) (resk_cell rfl (aload_row RowC.h (rowAt_cells hg7 rfl)) rfl) ⟨⟨f,hBL,rfl⟩,hU7.ext hE1 hw (by omega)⟩)
theorem lostD_sv {tr:List Value}{t:DTask}{h:Heap}(ht:DTaskAt h tr t)(hf:t.Fit) :
  Sv Tryz.prog 75 [.agg ⟨tr⟩] h (RetP fun v h'=>LostR t v/\Ext h h'):=by
 have ht0:=ht
 obtain⟨rr,ad,cd,ats,ct,hr0,rfl,_,_⟩:=ht
 obtain⟨ah,ch,aw,cw,g0,g1',g2',_,rfl,_,_⟩:=hr0
 refine Sv_wf fun hw=>?_
 refine Sv_enter Tryz.func75 rfl (by rw[Tryz.ntmps75];rfl) ?_;show Wc Tryz.prog ⟨75,17,none⟩ _ _ _ _ _
 refine zy ?_
 refine Wo_box rfl rfl rfl fun h1 hE1 hW1 hg1 hn1=>?_
 refine Wo_alloc rfl rfl Zr.h fun h2 hE2 hW2 hg2 hn2=>?_
 have hl2:h.nx<=h1.nx:=hE1.2.1
 replace hg1:=hE2.get hg1
 replace hE1:=hE1.trans hE2
 clear hE2 hW1 hW2 hn1
 generalize h.nx=b1 at hg1
 generalize hb2:h1.nx=b2 at *
 refine zy ?_
 refine Wo_callr rfl rfl rfl rfl rfl Bod.h rfl rfl (open_sv (ht0.ext hE1) hf) ?_
 rintro v h3 ⟨hO,hE3⟩
 replace hg2:=hE3.get hg2
 replace hE1:=hE1.trans hE3
 clear hE3
 rcases hO with ⟨c0,rfl⟩|⟨c0,b,rfl,hrb⟩
 ·refine zy ?_
  refine Wo_do rfl rfl rfl rfl (A_tt c0 (A_neq rfl rfl)) ?_
  refine zy ?_
  refine Wo_store rfl Tsz.h rfl rfl hg2 rfl rfl rfl fun h4 hU4=>?_
  have hg4:=hU4.at'
  refine zy ?_
  exact Wc_ret (Lv_ret (vs:=[spV ⟨0,0⟩,i64 (dErr t)]) (resk_cell rfl (aload_row RowC.h (rowAt_cells hg4 rfl)) (resk_tmp rfl rfl)) ⟨.inl ⟨c0,rfl⟩,hU4.ext hE1 hw (by omega)⟩)
 refine zy ?_
 refine Wo_do rfl rfl rfl rfl (A_ff (fun x=>x rfl) (A_neq rfl rfl)) ?_
 refine zy ?_
 refine Wo_callr rfl rfl rfl rfl rfl Bod.h rfl rfl (lost_sv hrb (d_ok c0)) ?_
 rintro _ h4 ⟨⟨f,hBL,rfl⟩,hE4⟩
 replace hg2:=hE4.get hg2
 replace hE1:=hE1.trans hE4
 refine zy ?_
 refine Wo_store rfl Tsz.h rfl rfl hg2 rfl rfl rfl fun h5 hU5=>?_
 have hg5:=hU5.at'
 refine zy ?_
 exact Wc_ret (Lv_ret (vs:=[spV ⟨lostLo t.rule.lost t.first (knownL t f),lostHi t.rule.lost t.first (knownL t f)⟩,i64 0]) (resk_cell rfl (aload_row RowC.h (rowAt_cells hg5 rfl)) (resk_tmp rfl rfl)) ⟨.inr ⟨c0,f,hBL,rfl⟩,hU5.ext hE1 hw (by omega)⟩)
set_option maxHeartbeats 4000000 in
theorem due_sv {tr:List Value}{t:DTask}{last margin:Int}{h:Heap}(ht:DTaskAt h tr t)(hf:t.Fit)(hl:I64 last)(hm:I64 margin) :
  Sv Tryz.prog 32 [.agg ⟨tr⟩,i64 last,i64 margin] h (RetP fun v h'=>DueR t last margin v/\Ext h h'):=by
 have ht0:=ht
 obtain⟨rr,ad,cd,ats,ct,hr0,rfl,_,_⟩:=ht
 obtain⟨ah,ch,aw,cw,g0,g1',g2',_,rfl,_,_⟩:=hr0
 have hl1:-9223372036854775808<=last:=hl.1
 have hl2:last<=9223372036854775807:=by have:=hl.2;omega
 have hm1:-9223372036854775808<=margin:=hm.1
 have hm2:margin<=9223372036854775807:=by have:=hm.2;omega
 refine Sv_wf fun hw=>?_
 refine Sv_enter Tryz.func32 rfl (by rw[Tryz.ntmps32];rfl) ?_;show Wc Tryz.prog ⟨32,60,none⟩ _ _ _ _ _
 refine zy ?_
 refine Wo_box rfl rfl rfl fun h1 hE1 hW1 hg1 hn1=>?_
 generalize h.nx=b3 at *
 refine zy ?_
 refine Wo_callr rfl rfl rfl rfl rfl Bod.h rfl rfl (lostD_sv (ht0.ext hE1) hf) ?_
 rintro v h3 ⟨hLv,hE3⟩
 replace hg1:=hE3.get hg1
 replace hE1:=hE1.trans hE3
 clear hE3 hW1 hn1
 clear h1
 rcases hLv with ⟨c0,rfl⟩|⟨c0,f,hB,rfl⟩
 ·refine zy ?_
  refine Wo_allocStore rfl rfl Zr.h Tsz.h rfl (fun _=>rfl) rfl rfl rfl fun h4 hE4 hW4 hg8 hn4=>?_
  refine zy ?_
  refine Wo_do rfl rfl rfl rfl (A_tt c0 (A_neq rfl rfl)) ?_
  refine zy ?_
  exact Wc_ret (Lv_ret rfl ⟨.inl ⟨c0,rfl⟩,hE1.trans hE4⟩)
 have hD:=d_ok c0
 have hf0:=hD.first0
 have hfl:=hD.last
 have hlr:=lostLo_rng (lost:=t.rule.lost) (l:=knownL t f) (first:=t.first) hf0
 rw[knownL_len] at hlr
 have hres:∀v,v=Value.tuple ⟨[i64 (dueS t.first t.days.length (lostLo t.rule.lost t.first (knownL t f)) last margin).1,i64 (dueS t.first t.days.length (lostLo t.rule.lost t.first (knownL t f)) last margin).2]⟩->DueR t last margin v:=fun v e=>.inr ⟨c0,f,hB,e⟩
 generalize lostLo t.rule.lost t.first (knownL t f)=lo at *
 generalize lostHi t.rule.lost t.first (knownL t f)=hi at *
 refine zy ?_
 refine Wo_allocStore rfl rfl Zr.h Tsz.h rfl (fun _=>rfl) rfl rfl rfl fun h4 hE4 hW4 hg8 hn4=>?_
 replace hg1:=hE4.get hg1
 replace hE1:=hE1.trans hE4
 generalize h3.nx=b8 at *
 refine zy ?_
 refine Wo_do rfl rfl rfl rfl (A_ff (fun x=>x rfl) (A_neq rfl rfl)) ?_
 refine zy ?_
 refine Wo_callb rfl rfl rfl rfl rfl Bod.h rfl rfl (out_sv _ _ _ _) (fun a1=>?_) (fun a1=>?_)
 ·refine zy ?_
  exact Wc_ret (Lv_ret rfl ⟨hres _ (by unfold dueS;rw[if_pos (.inl a1)];rfl),hE1⟩)
 refine zy ?_
 refine Wo_dec rfl rfl rfl rfl (A_lss rfl rfl) (fun a2=>?_) (fun a2=>?_)
 ·refine zy ?_
  exact Wc_ret (Lv_ret rfl ⟨hres _ (by unfold dueS;rw[if_pos (.inr a2)];rfl),hE1⟩)
 have hdu:dueS t.first t.days.length lo last margin=if lastS lo last margin<t.first then (0,9) else (lastS lo last margin,0):=by unfold dueS;rw[if_neg (by omega)]
 rw[hdu] at hres
 refine zy ?_
 refine Wo_dec rfl rfl rfl rfl (A_geq rfl rfl) (fun a3=>?_) (fun a3=>?_)
 ·have a3:0<=lo:=a3
  have hla:lastS lo last margin=min last (lo-1-min margin 80000):=if_pos a3
  rw[hla] at hres
  have hd1:=hD.days1
  have hlo1:lo<=100000:=by omega
  refine zy ?_
  refine Wo_do rfl rfl rfl rfl (A_sb (a:=lo) rfl rfl (by omega) (by omega)) ?_
  refine zy ?_
  refine Wo_dec rfl rfl rfl rfl (A_gtr rfl rfl) (fun a4=>?_) (fun a4=>?_)
  ·refine zy ?_
   exact Wc_ret (Lv_ret rfl ⟨hres _ (by rw[if_pos (by omega)];rfl),hE1⟩)
  refine zy ?_
  refine Wo_do rfl rfl rfl rfl (A_tt a3 (A_geq rfl rfl)) ?_
  refine zy ?_
  refine Wo_do rfl rfl rfl rfl (A_sb (a:=lo) rfl rfl (by omega) (by omega)) ?_
  refine zy ?_
  refine Wo_do rfl rfl rfl rfl (A_min rfl rfl) ?_
  refine zy ?_
  refine Wc_ret (Lv_ret rfl ⟨hres _ ?_,hE1⟩)
  rw[if_neg (by omega),show min last (lo-1-min margin 80000)=min last (lo-1-margin) by omega]
  rfl
 ·have hla:lastS lo last margin=last:=if_neg a3
  rw[hla] at hres
  refine zy ?_
  refine Wo_do rfl rfl rfl rfl (A_ff a3 (A_geq rfl rfl)) ?_
  refine zy ?_
  exact Wc_ret (Lv_ret rfl ⟨hres _ (by rw[if_neg (by omega)];rfl),hE1⟩)
end Go.Dw
/- EZ: contracts: Own, Levels and Grade of the program, as far as they are needed. -/
namespace Go.Dw
open Go Go.Dx Go.Proofs
set_option maxRecDepth 100000
section
variable {P:Program}{m:Mem}{h:Heap}{d:Option Tmp}{ty:TypeId}{pos:String}{af:Array Edge}{gu:Option (Nat×Bool)}
end
def LevelsR (t:DTask)(h:Heap)(v:Value):Prop:=(dErr t≠0/\v=.tuple ⟨[.slice none 0 0,.slice none 0 0,i64 (dErr t)]⟩)\/(dErr t=0/\∃a a3 c3 f B,v=.tuple ⟨[.slice a (t.days.length+1) (t.days.length+1),.slice a3 B.length c3,i64 0]⟩/\RowsAt 2 SpR h a (knownL t f)/\BackL t f 0/\B.map Prod.fst=(stD t t.days.length).bad/\RowsAt 2 (fun _ row (x:Nat×Int)=>row=[i64 (x.1:Nat),i64 x.2]) h a3 B)
theorem levelsP_sv {tr:List Value}{t:DTask}{h:Heap}(ht:DTaskAt h tr t)(hf:t.Fit) :
  Sv Tryz.prog 44 [.agg ⟨tr⟩] h (RetP fun v h'=>LevelsR t h' v/\Ext h h'):=by
 have ht0:=ht
 obtain⟨rr,ad,cd,ats,ct,hr0,rfl,_,_⟩:=ht
 obtain⟨ah,ch,aw,cw,g0,g1',g2',_,rfl,_,_⟩:=hr0
 refine Sv_enter Tryz.func44 rfl (by rw[Tryz.ntmps44];rfl) ?_;show Wc Tryz.prog ⟨44,24,none⟩ _ _ _ _ _
 refine zy ?_
 refine Wo_box rfl rfl rfl fun h1 hE1 hW1 hg1 hn1=>?_
 refine zy ?_
 refine Wo_callr rfl rfl rfl rfl rfl Bod.h rfl rfl (open_sv (ht0.ext hE1) hf) ?_
 rintro v h3 ⟨hO,hE3⟩
 replace hE1:=hE1.trans hE3
 rcases hO with ⟨c0,rfl⟩|⟨c0,b,rfl,hrb⟩
 ·refine zy ?_
  refine Wo_do rfl rfl rfl rfl (A_tt c0 (A_neq rfl rfl)) ?_
  refine zy ?_
  exact Wc_ret (Lv_ret rfl ⟨.inl ⟨c0,rfl⟩,hE1⟩)
 refine zy ?_
 refine Wo_do rfl rfl rfl rfl (A_ff (fun x=>x rfl) (A_neq rfl rfl)) ?_
 refine zy ?_
 refine Wo_callr rfl rfl rfl rfl rfl Bod.h rfl rfl (known_sv hrb (d_ok c0)) ?_
 rintro _ h4 ⟨⟨a,a3,c3,f,B,rfl,hR,hBL,hBb,hBr⟩,hE4⟩
 refine zy ?_
 exact Wc_ret (Lv_ret rfl ⟨.inr ⟨c0,a,a3,c3,f,B,rfl,hR,hBL,hBb,hBr⟩,hE1.trans hE4⟩)
def canS (t:DTask)(c:Nat->Int):Nat->Sp
 | 0=>t.start
 | i+1=>⟨leastS t.rule (forceAt t i) (c i),mostS t.rule (forceAt t i) (c i)⟩
def OwnR (t:DTask)(l:List Int)(v:Value):Prop:=∃a e,v=.tuple ⟨[i64 a,i64 e]⟩/\(e=0->a = -1->dErr t=0/\l.length=t.days.length+1/\Course t (fun i=>l.getD i 0))
end Go.Dw
