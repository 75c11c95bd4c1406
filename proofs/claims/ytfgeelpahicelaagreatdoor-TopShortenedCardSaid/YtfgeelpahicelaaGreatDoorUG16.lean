/- M1: TopShortened: its contract, for any task, show, subtitles and cuts. -/
import Derived.Test.YtfgeelpahicelaaGreatDoorUG2
import Derived.Test.YtfgeelpahicelaaGreatDoorUG12
import Derived.Test.YtfgeelpahicelaaGreatDoorUG13
import Derived.Test.YtfgeelpahicelaaGreatDoorUG14
import Derived.Test.YtfgeelpahicelaaGreatDoorUG15
set_option linter.unusedVariables false
set_option linter.unusedSimpArgs false
namespace Go.Dw
open Go Go.Dx Go.Proofs
set_option maxRecDepth 100000
set_option maxHeartbeats 4000000 in
theorem topShortened_sv {tc sr:List Value}{t:ScT}{s:ScS}{n:Int}{cs:List Cut}{l:List Ttl}{al ac:Option Addr}{cl cc:Nat}{h:Heap}(ht:ScTAt h tc t)(hT:t.Fit)(hs:s.Fit)(hr:ScSR h sr s)(hI:I64 n)(hcs:RowsAt 2 CutR h ac cs)(hcF:∀c∈cs,c.Fit)(hcL:Len cs)(hl:RowsAt 3 TtlR h al l)(hF:∀x∈l,x.Fit)(hL:Len l)(hTb:TabAt spTab h)(hLib:LibAt h)(hSz:t.prints.length*96<=281474976710656):Sv Tryz.prog 9 [.agg ⟨tc⟩,.agg ⟨.slice al l.length cl::i64 n::.slice ac cs.length cc::sr⟩] h (RetP fun v h'=>v=.bool true/\Ext h h'):=by
 have ht0:=ht
 obtain⟨a1,c1,at',ct,av,cv,a2,c2,a3,c3,a4,c4,a5,c5,a6,c6,rfl,m1,m2,m3,m4,m5,m6,m7,m8⟩:=ht
 obtain rfl:=hr
 refine Sv_wf fun hw=>?_
 refine Sv_enter Tryz.func9 rfl (by rw[Tryz.ntmps9];rfl) ?_;show Wc Tryz.prog ⟨9,281,none⟩ _ _ _ _ _
 refine zy ?_
 refine Wo_box rfl rfl rfl fun h1 hE1 hW1 hg1 hn1=>?_
 refine Wo_box rfl rfl rfl fun h2 hE2 hW2 hg2 hn2=>?_
 replace hg1:=hE2.get hg1
 have hE:=hE1.trans hE2
 have hb1:h.nx<h1.nx:=by omega
 have hb2:h1.nx<h2.nx:=by omega
 generalize hb1e:h.nx=b1 at *
 generalize hb2e:h1.nx=b2 at *
 clear hE1 hE2 hW1 hn1 hn2
 refine zy ?_
 refine Wo_allocStore rfl rfl Zr.h Tsz.h rfl (fun _=>rfl) rfl rfl rfl fun h3 hE3 hW3 hg3 hn3=>?_
 replace hg1:=hE3.get hg1
 replace hg2:=hE3.get hg2
 replace hE:=hE.trans hE3
 generalize hb3e:h2.nx=b3 at *
 clear hE3 hn3 hW2
 refine zy ?_
 refine Wo_callr rfl rfl rfl rfl rfl Bod.h rfl rfl (scRetime_sv hI (RowsAt.ext (R:=CutR) (fun x _=>x) hcs hE) hcF hcL (RowsAt.ext (R:=TtlR) (fun x _=>x) hl hE) hF hL (hLib.ext hE)) ?_
 rintro _ h4 ⟨hE4,⟨hbad,rfl⟩|⟨hok,va,rfl,hFr⟩⟩
 ·refine zy ?_
  refine Wo_do rfl rfl rfl rfl (A_tt hbad (A_neq rfl rfl)) ?_
  refine zy ?_
  refine Wo_do rfl rfl rfl rfl (A_ff hbad (A_eql rfl rfl)) ?_
  refine zy ?_
  refine Wo_do rfl rfl rfl rfl (A_tt rfl (A_eql rfl rfl)) ?_
  refine zy ?_
  refine Wo_callV rfl rfl rfl rfl rfl Bod.h rfl rfl (awake_sv (hTb.ext (hE.trans hE4))) ?_
  refine zy ?_
  exact Wc_ret (Lv_ret rfl ⟨rfl,hE.trans hE4⟩)
 obtain⟨hct,hte,hbn⟩:=ret_ok hok
 obtain⟨n1,n2,n3,hco⟩:=cutS_ok hct
 obtain⟨aY,cY,rfl,hY⟩:=ttRows_at hFr
 clear hFr
 generalize hYe:retimeS cs l=Y at *
 replace hg1:=hE4.get hg1
 replace hg2:=hE4.get hg2
 replace hg3:=hE4.get hg3
 replace hE:=hE.trans hE4
 clear hE4 hW3
 refine zy ?_
 refine Wo_do rfl rfl rfl rfl (A_ff (by decide) (A_neq rfl rfl)) ?_
 refine zy ?_
 refine Wo_dec rfl rfl rfl rfl (A_lss rfl rfl) (fun hp1=>?_) (fun hp1=>?_)
 ·refine zy ?_
  refine Wo_do rfl rfl rfl rfl (A_tt rfl (A_eql rfl rfl)) ?_
  refine zy ?_
  refine Wo_callV rfl rfl rfl rfl rfl Bod.h rfl rfl (awake_sv (hTb.ext hE)) ?_
  refine zy ?_
  exact Wc_ret (Lv_ret rfl ⟨rfl,hE⟩)
 refine zy ?_
 refine Wo_dec rfl rfl rfl rfl (A_geq rfl rfl) (fun hp2=>?_) (fun hp2=>?_)
 ·refine zy ?_
  refine Wo_do rfl rfl rfl rfl (A_tt rfl (A_eql rfl rfl)) ?_
  refine zy ?_
  refine Wo_callV rfl rfl rfl rfl rfl Bod.h rfl rfl (awake_sv (hTb.ext hE)) ?_
  refine zy ?_
  exact Wc_ret (Lv_ret rfl ⟨rfl,hE⟩)
 refine zy ?_
 refine Wo_dec rfl rfl rfl rfl (A_gtr rfl rfl) (fun hn4=>?_) (fun hn4=>?_)
 ·refine zy ?_
  refine Wo_do rfl rfl rfl rfl (A_tt rfl (A_eql rfl rfl)) ?_
  refine zy ?_
  refine Wo_callV rfl rfl rfl rfl rfl Bod.h rfl rfl (awake_sv (hTb.ext hE)) ?_
  refine zy ?_
  exact Wc_ret (Lv_ret rfl ⟨rfl,hE⟩)
 obtain⟨N,rfl⟩:∃N:Nat,n=N:=⟨n.toNat,by omega⟩
 obtain⟨k,hk⟩:∃k:Nat,s.print=k:=⟨s.print.toNat,by omega⟩
 have hkl:k<t.prints.length:=by omega
 have hleft:(cntC cs N:Int)=(cutS N cs).1:=by
  rw[cnt_all hco,cutS_go (by omega) (by omega)]
 refine zy ?_
 refine Wc_loop (fun (i:Nat) m ds h'=>ds=[]/\i<=N/\Ext h4 h'/\AllK m [(2,.pointer (some ⟨b1,0,none⟩)),(3,.pointer (some ⟨b2,0,none⟩)),(5,.pointer (some ⟨b3,0,none⟩)),(6,.slice aY Y.length cY),(8,i64 (cntC cs i:Nat)),(9,i64 i)]) (fun i=>N-i) 0 ?_ ?_
 ·exact⟨rfl,Nat.zero_le _,Ext.refl _,rfl,rfl,rfl,rfl,rfl,rfl,trivial⟩
 rintro i m ds h5 ⟨rfl,hi,hE5,hall⟩
 replace hg1:=hE5.get hg1
 replace hg2:=hE5.get hg2
 replace hg3:=hE5.get hg3
 refine Wc.le ?_ (Le.kn hall)
 refine zy ?_
 refine Wo_dec rfl rfl rfl rfl (A_lss rfl rfl) (fun hi1=>?_) (fun hi1=>?_)
 ·have hi2:i<N:=by omega
  refine zy ?_
  have hiI:I64 (i:Int):=⟨by omega,by omega⟩
  refine Wo_callE rfl rfl rfl rfl rfl Bod.h rfl rfl (after_sv (i:=(i:Int)) hI hiI (RowsAt.ext (R:=CutR) (fun x _=>x) hcs (hE.trans hE5)) hcF hcL) fun h6 hE6=>?_
  have hav:=after_at (n:=(N:Int)) (i:=(i:Int)) hct (by omega) (by omega)
  have hcn:=cntC_succ cs i
  rw[hav]
  cases hq:afterC cs (i:Int) with
  | none =>
   rw[hq] at hcn
   refine zy ?_
   refine Wo_do rfl rfl rfl rfl (A_ff (by decide) (A_eql rfl rfl)) ?_
   refine zy ?_
   exact⟨i+1,(by show N-(i+1)<N-i;omega),rfl,hi2,hE5.trans hE6,rfl,rfl,rfl,rfl,(by rw[hcn];rfl),rfl,trivial⟩
  | some v =>
   rw[hq] at hcn
   refine zy ?_
   refine Wo_do rfl rfl rfl rfl (A_tt rfl (A_eql rfl rfl)) ?_
   have hci:cntC cs i<=i:=Nat.le_trans (List.length_filter_le _ _) (by rw[List.length_range];exact Nat.le_refl _)
   refine zy ?_
   exact⟨i+1,(by show N-(i+1)<N-i;omega),rfl,hi2,hE5.trans hE6,rfl,rfl,rfl,rfl,(by rw[hcn];rfl),rfl,trivial⟩
 have hiN:i=N:=by omega
 subst hiN
 replace hE:=hE.trans hE5
 replace hY:RowsAt 3 TtlR h5 aY Y:=RowsAt.ext (R:=TtlR) (fun x _=>x) hY hE5
 clear hall hi hi1 hE5
 generalize hLe:cntC cs i=left at *
 obtain⟨bp,op,oap,rfl,-⟩:=m5 0 (by omega)
 obtain⟨rows,hrl,hrr,hrp⟩:=prints_rows m5
 have hsrc:∀{h'},Ext h h'->asrc Tryz.prog 56 7 26 (.slice (some ⟨bp,op,oap⟩) t.prints.length c3) h'=some (t.prints.length,rows.flatMap Subtype.val):=fun {h'} hx=>by
  have:=rows_src (P:=Tryz.prog) (f:=Subtype.val) (R:=fun _ row (x:Row7)=>row=x.1) (fun _ _ _ e=>e) (k:=7) (by decide) (fun x=>x.2) (cap:=c3) (el:=56) (tX:=26) Und.h (by intro k;simp) (RowsAt.ext (R:=fun _ row (x:Row7)=>row=x.1) (fun x _=>x) hrr hx) (by omega)
  rw[hrl] at this;exact this
 have hflen:(rows.flatMap Subtype.val).length=t.prints.length*7:=by rw[rows7_len,hrl]
 have hfone:=rows7_one hrl hrp
 have hO:=fun (he:errSc t=0)=>(sc_ok he).prints1
 refine zy ?_
 refine Wc_wf fun hw5=>?_
 have hEa:=Ext.add hw5 (.cells [i64 0,.slice none 0 0,.slice none 0 0,.slice none 0 0,.slice none 0 0,.slice none 0 0,.slice none 0 0,.slice none 0 0,.slice none 0 0] 31 false)
 have hEb:=hEa.trans (Ext.add (hw5.add _) (.cells [i64 0,.slice none 0 0,.slice none 0 0,.slice none 0 0,.slice none 0 0,.slice none 0 0,.slice none 0 0,.slice none 0 0,.slice none 0 0] 31 false))
 have ga:((h5.add (.cells [i64 0,.slice none 0 0,.slice none 0 0,.slice none 0 0,.slice none 0 0,.slice none 0 0,.slice none 0 0,.slice none 0 0,.slice none 0 0] 31 false)).add (.cells [i64 0,.slice none 0 0,.slice none 0 0,.slice none 0 0,.slice none 0 0,.slice none 0 0,.slice none 0 0,.slice none 0 0,.slice none 0 0] 31 false)).get h5.nx=some (.cells [i64 0,.slice none 0 0,.slice none 0 0,.slice none 0 0,.slice none 0 0,.slice none 0 0,.slice none 0 0,.slice none 0 0,.slice none 0 0] 31 false):=(Ext.add (hw5.add _) _).get Heap.get_add_same
 have gb:((h5.add (.cells [i64 0,.slice none 0 0,.slice none 0 0,.slice none 0 0,.slice none 0 0,.slice none 0 0,.slice none 0 0,.slice none 0 0,.slice none 0 0] 31 false)).add (.cells [i64 0,.slice none 0 0,.slice none 0 0,.slice none 0 0,.slice none 0 0,.slice none 0 0,.slice none 0 0,.slice none 0 0,.slice none 0 0] 31 false)).get (h5.nx+1)=some (.cells [i64 0,.slice none 0 0,.slice none 0 0,.slice none 0 0,.slice none 0 0,.slice none 0 0,.slice none 0 0,.slice none 0 0,.slice none 0 0] 31 false):=Heap.get_add_same
 have k1a:=hEb.get hg1
 refine Wc_draw hmix [0,0,0,0,13,31] [0,1,2,3] (some 4) [([],(some 5)),([],none)] (by kernel_rfl) (by kernel_rfl) ?_
 refine z_r ?_;refine z_r ?_
 refine Wp_new (nk:=.ptr) rfl rfl rfl rfl rfl (fun _ _ _=>N_alloc Zr.h) ?_
 refine Wp_new (nk:=.ptr) rfl rfl rfl rfl rfl (fun _ _ _=>N_alloc Zr.h) ?_
 refine Wp_eff (h1:=(Heap.add (Heap.add h5 _) _)) [0,2,3] (by kernel_rfl) rfl (Stl_nil rfl) rfl rfl rfl (W1_wfK (W1_store rfl rfl Tsz.h rfl rfl ga rfl rfl rfl (fun h6 hU6 hW6=>?_)))
 have hE6:=hU6.ext hEb hw5 (Nat.le_refl _)
 have gb6:=hU6.get (show h5.nx+1≠h5.nx by omega) gb
 have k16:=hE6.get hg1
 refine Wp_eff (h1:=h6) [0,1,2,3,4] (by kernel_rfl) rfl (by refine t_r 1 ?_;exact Stl_nil rfl) rfl rfl rfl (W1_wfK (W1_store rfl rfl Tsz.h rfl rfl gb6 rfl rfl rfl (fun h7 hU7 hw7=>?_)))
 have hE7:=hU7.ext hE6 hw5 (Nat.le_succ _)
 refine Wp_end (h1:=h7) (Stl_nil rfl) rfl ?_
 have gU:=hU7.get (show h5.nx≠h5.nx+1 by omega) hU6.at'
 have gV:=hU7.at'
 have hO7:Own h5 h7 [ceI (h5.nx+1) [i64 t.first,.slice a1 t.lands.length c1,.slice at' t.travel.length ct,.slice av t.venues.length cv,.slice a2 t.rights.length c2,.slice (some ⟨bp,op,oap⟩) t.prints.length c3,.slice a4 t.packs.length c4,.slice a5 t.keys.length c5,.slice a6 t.loans.length c6] 31 false,ceI h5.nx [i64 t.first,.slice a1 t.lands.length c1,.slice at' t.travel.length ct,.slice av t.venues.length cv,.slice a2 t.rights.length c2,.slice (some ⟨bp,op,oap⟩) t.prints.length c3,.slice a4 t.packs.length c4,.slice a5 t.keys.length c5,.slice a6 t.loans.length c6] 31 false]:=by
  refine Own.add1 (Own.add1 (Own.nil h5 h7) (y:=ceI h5.nx _ _ false) gU (fun c hc=>by rw[show c=h5.nx from hc];exact Nat.le_refl _) (fun x hx=>nomatch hx)) gV (fun c hc=>by rw[show c=h5.nx+1 from hc];exact Nat.le_succ _) (fun x hx c hc hyc=>?_)
  rw[List.mem_singleton.1 hx] at hc
  have e1:c=h5.nx:=hc
  have e2:c=h5.nx+1:=hyc
  omega
 clear gU gV hU6 hU7 hW6 gb6 k16 k1a ga gb hEa hEb hE6
 clear h6
 have hlo7:h5.nx<=h7.nx:=hE7.2.1
 generalize hbu:h5.nx=bu at hO7 hlo7
 rw[<-hbu] at hlo7
 have k17:=hE7.get hg1
 have hx7:Ext h7 (rsv (Heap.add h7 (.cells [] 56 false))):=(Ext.add hw7 _).trans (Ext.rsv _)
 have hE7a:=hE7.trans hx7
 have k17a:=hE7a.get hg1
 have hO7a:=hO7.ext hx7
 refine zy ?_
 refine Wc_draw hmix [0,0,2,7,0,0,32,127,15,511,1023,2047] [0,1,2,4,5,6] (some 3) [([8],(some 7)),([],(some 9)),([10],(some 11)),([],none)] (by kernel_rfl) (by kernel_rfl) ?_
 refine Wp_new (nk:=.sl _ _) rfl rfl rfl rfl rfl (fun _ _ hs=>N_bs hs Und.h Tsz.h Zr.h rfl rfl rfl rfl rfl) ?_
 refine z_f ?_;refine z_l ?_
 refine Wp_new (nk:=.sl _ _) rfl rfl rfl rfl rfl (fun _ _ hs=>N_bs hs Und.h Tsz.h Zr.h rfl rfl rfl rfl rfl) ?_
 refine z_f ?_;refine z_l ?_
 refine Wp_eff (h1:=(rsv (Heap.add h7 _))) [0,1,2] (by kernel_rfl) rfl (Stl_nil rfl) rfl rfl rfl (W1_appendZ (sz:=7) (k:=t.prints.length) (l:=rows.flatMap Subtype.val) rfl hE7a ((hw7.add _).rsv) rfl rfl rfl rfl Und.h inferInstance rfl rfl hO7a (hsrc (hE.trans hE7a)) (by omega) (by omega) (by omega) (fun bP h8 hO8 hE8x hw8 hbP gP8=>?_))
 have hE8:=hE7a.trans hE8x
 have hbP8:bP≠h7.nx+1:=by
  have:(h7.nx+1)+1<=bP:=hbP
  omega
 have hbv8:(bu+1)≠h7.nx+1:=by
  have:=hO7.lt hw7 _ List.mem_cons_self (bu+1) rfl
  omega
 have hbu8:bu≠h7.nx+1:=by
  have:=hO7.lt hw7 _ (List.mem_cons_of_mem _ List.mem_cons_self) bu rfl
  omega
 have hU8:=Upd.mk' h8 (h7.nx+1) (.cells [] 56 false)
 have hE8':=hU8.ext hE8 hw5 (Nat.le_succ_of_le hlo7)
 have hO8':=hO8.other (.cells [] 56 false) (b:=h7.nx+1) (fun x hx c hc=>by
  simp only[List.mem_cons,List.not_mem_nil,or_false] at hx
  rcases hx with rfl|rfl|rfl
  ·exact fun e=>hbP8 ((show c=bP from hc).symm.trans e)
  ·exact fun e=>hbv8 ((show c=(bu+1) from hc).symm.trans e)
  ·exact fun e=>hbu8 ((show c=bu from hc).symm.trans e))
 have hlt8:h7.nx+1<h8.nx:=hE8x.2.1
 have hw8':WF (h8.set (h7.nx+1) (.cells [] 56 false)):=hw8.upd hU8 hlt8
 have k18:=hE8.get hg1
 have k18':=hE8'.get hg1
 refine z_f ?_
 refine Wp_eff (h1:=(h8.set (h7.nx+1) (.cells [] 56 false))) [0,1,2,3,4,5,6] (by kernel_rfl) rfl (by refine t_l 6 ?_;refine t_f 5 ?_;refine Stl_new (i:=4) (nk:=.sl _ _) rfl rfl rfl rfl rfl (fun _ _ hs=>N_bs hs Und.h Tsz.h Zr.h rfl rfl rfl rfl rfl) rfl ?_;exact Stl_nil rfl) rfl rfl rfl (W1_appendZ (sz:=7) (k:=t.prints.length) (l:=rows.flatMap Subtype.val) rfl hE8' hw8' rfl rfl rfl rfl Und.h inferInstance rfl rfl hO8' (hsrc (hE.trans hE8')) (by omega) (by omega) (by omega) (fun bQ h9 hO10 hE9x hw9 hbQ gQ9=>?_))
 have hE9:=hE8'.trans hE9x
 have k19:=hE9.get hg1
 refine Wp_eff (h1:=h9) [0,1,2,3,4,5,6,7,8] (by kernel_rfl) rfl (by refine t_f 8 ?_;exact Stl_nil rfl) rfl rfl rfl (W1_wfK (W1_storeO rfl hw5 hE9 rfl Tsz.h rfl rfl (hO10.pick 3 rfl) rfl rfl rfl (fun h10 hO11 hE10 hw10=>?_)))
 have hO11':Own h5 h10 [ceI bQ (rows.flatMap Subtype.val) 56 true,ceI bP (rows.flatMap Subtype.val) 56 true,ceI (bu+1) [i64 t.first,.slice a1 t.lands.length c1,.slice at' t.travel.length ct,.slice av t.venues.length cv,.slice a2 t.rights.length c2,.slice (some ⟨bp,op,oap⟩) t.prints.length c3,.slice a4 t.packs.length c4,.slice a5 t.keys.length c5,.slice a6 t.loans.length c6] 31 false,ceI bu [i64 t.first,.slice a1 t.lands.length c1,.slice at' t.travel.length ct,.slice av t.venues.length cv,.slice a2 t.rights.length c2,.slice (some ⟨bP,0,some 7⟩) t.prints.length t.prints.length,.slice a4 t.packs.length c4,.slice a5 t.keys.length c5,.slice a6 t.loans.length c6] 31 false]:=hO11.unpick 3 (Nat.le_of_ble_eq_true rfl)
 have k110:=hE10.get hg1
 refine z_f ?_
 refine Wp_eff (h1:=h10) [0,1,2,3,4,5,6,7,8,9,10] (by kernel_rfl) rfl (Stl_nil rfl) rfl rfl rfl (W1_wfK (W1_storeO rfl hw5 hE10 rfl Tsz.h rfl rfl (hO11'.pick (x:=ceI (bu+1) [i64 t.first,.slice a1 t.lands.length c1,.slice at' t.travel.length ct,.slice av t.venues.length cv,.slice a2 t.rights.length c2,.slice (some ⟨bp,op,oap⟩) t.prints.length c3,.slice a4 t.packs.length c4,.slice a5 t.keys.length c5,.slice a6 t.loans.length c6] 31 false) 2 rfl) rfl rfl rfl (fun h11 hO12 hE11 hw11=>?_)))
 have hO12':=hO12.unpick 2 (Nat.le_of_ble_eq_true rfl)
 refine Wp_end (h1:=h11) (Stl_nil rfl) rfl ?_
 replace hO12':Own h5 h11 [ceI bQ (rows.flatMap Subtype.val) 56 true,ceI bP (rows.flatMap Subtype.val) 56 true,ceI (bu+1) [i64 t.first,.slice a1 t.lands.length c1,.slice at' t.travel.length ct,.slice av t.venues.length cv,.slice a2 t.rights.length c2,.slice (some ⟨bQ,0,some 7⟩) t.prints.length t.prints.length,.slice a4 t.packs.length c4,.slice a5 t.keys.length c5,.slice a6 t.loans.length c6] 31 false,ceI bu [i64 t.first,.slice a1 t.lands.length c1,.slice at' t.travel.length ct,.slice av t.venues.length cv,.slice a2 t.rights.length c2,.slice (some ⟨bP,0,some 7⟩) t.prints.length t.prints.length,.slice a4 t.packs.length c4,.slice a5 t.keys.length c5,.slice a6 t.loans.length c6] 31 false]:=hO12'
 clear k110 k19 k18 k18' hO11 hO11' hO10 hO8' hO8 hO12 hbP8 hbu8 hbv8 hO7a k17a k17 hE10 hE9 hE9x hE8 hE8' hE8x hE7a hx7 hw10 hw9 hw8 hw8' hU8 hbP hbQ hlt8 gP8 gQ9
 clear h10
 clear h9
 clear h8
 have hg2b:=hE11.get hg2
 have hg3b:=hE11.get hg3
 have gU:h11.get bu=_:=hO12'.at (x:=ceI bu [i64 t.first,.slice a1 t.lands.length c1,.slice at' t.travel.length ct,.slice av t.venues.length cv,.slice a2 t.rights.length c2,.slice (some ⟨bP,0,some 7⟩) t.prints.length t.prints.length,.slice a4 t.packs.length c4,.slice a5 t.keys.length c5,.slice a6 t.loans.length c6] 31 false) 3 rfl
 have gV:h11.get (bu+1)=_:=hO12'.at (x:=ceI (bu+1) [i64 t.first,.slice a1 t.lands.length c1,.slice at' t.travel.length ct,.slice av t.venues.length cv,.slice a2 t.rights.length c2,.slice (some ⟨bQ,0,some 7⟩) t.prints.length t.prints.length,.slice a4 t.packs.length c4,.slice a5 t.keys.length c5,.slice a6 t.loans.length c6] 31 false) 2 rfl
 have hxD:Ext h11 (rsv (Heap.add h11 (.cells [i64 (i:Nat)] 3 false))):=(Ext.add hw11 _).trans (Ext.rsv _)
 have hwD:WF (rsv (Heap.add h11 (.cells [i64 (i:Nat)] 3 false))):=(hw11.add _).rsv
 have hg2D:=hxD.get hg2b
 have hg3D:=hxD.get hg3b
 have gUD:=hxD.get gU
 have gVD:=hxD.get gV
 have hED:=hE11.trans hxD
 have lQ:=hO12'.lt hw11 _ List.mem_cons_self bQ rfl
 have lP:=hO12'.lt hw11 _ (List.mem_cons_of_mem _ List.mem_cons_self) bP rfl
 have lV:=hO12'.lt hw11 _ (List.mem_cons_of_mem _ (List.mem_cons_of_mem _ List.mem_cons_self)) (bu+1) rfl
 have lU:=hO12'.lt hw11 _ (List.mem_cons_of_mem _ (List.mem_cons_of_mem _ (List.mem_cons_of_mem _ List.mem_cons_self))) bu rfl
 have lo11:=hE11.2.1
 have hOD:Own h5 (rsv (Heap.add h11 (.cells [i64 (i:Nat)] 3 false))) [ceI h11.nx [i64 (i:Nat)] 3 false,ceI bQ (rows.flatMap Subtype.val) 56 true,ceI bP (rows.flatMap Subtype.val) 56 true,ceI (bu+1) [i64 t.first,.slice a1 t.lands.length c1,.slice at' t.travel.length ct,.slice av t.venues.length cv,.slice a2 t.rights.length c2,.slice (some ⟨bQ,0,some 7⟩) t.prints.length t.prints.length,.slice a4 t.packs.length c4,.slice a5 t.keys.length c5,.slice a6 t.loans.length c6] 31 false,ceI bu [i64 t.first,.slice a1 t.lands.length c1,.slice at' t.travel.length ct,.slice av t.venues.length cv,.slice a2 t.rights.length c2,.slice (some ⟨bP,0,some 7⟩) t.prints.length t.prints.length,.slice a4 t.packs.length c4,.slice a5 t.keys.length c5,.slice a6 t.loans.length c6] 31 false]:=hO12'.newCe hw11 lo11 hxD ((Ext.rsv _).get Heap.get_add_same) (Nat.le_refl _)
 have gPD:(rsv (Heap.add h11 (.cells [i64 (i:Nat)] 3 false))).get bP=_:=hOD.at (x:=ceI bP (rows.flatMap Subtype.val) 56 true) 2 rfl
 have hlayP:lay (rows.flatMap Subtype.val) (0+k*7+3) [.slice (some ⟨h11.nx,0,none⟩) 1 1]=some ((rows.flatMap Subtype.val).set (k*7+3) (.slice (some ⟨h11.nx,0,none⟩) 1 1)):=by rw[lay_one (by rw[hflen];omega),Nat.zero_add]
 have hlayQ:lay (rows.flatMap Subtype.val) (0+k*7+3) [.slice (some ⟨h11.nx+1,0,none⟩) 1 1]=some ((rows.flatMap Subtype.val).set (k*7+3) (.slice (some ⟨h11.nx+1,0,none⟩) 1 1)):=by rw[lay_one (by rw[hflen];omega),Nat.zero_add]
 refine zy ?_
 refine Wc_draw hmix [0,1,0,4,0,16,0,64,0,256,768,0,2048,1807,9999,26383,65535,131071,262143] [0,1,2,3,4,5,6,7,8,9,10,11,12,13,14] (some 15) [([16,17],(some 18)),([],none)] (by kernel_rfl) (by kernel_rfl) ?_
 refine z_f ?_;refine z_l ?_;refine z_f ?_;refine z_l ?_;refine z_f ?_;refine z_l ?_;refine z_f ?_;refine z_l ?_;refine z_f ?_;refine z_l ?_
 refine Wp_new (nk:=.sl _ _) rfl rfl rfl rfl rfl (fun _ _ hs=>N_bs hs Und.h Tsz.h Zr.h rfl rfl rfl rfl rfl) ?_
 refine z_m ?_
 refine Wp_new (nk:=.sl _ _) rfl rfl rfl rfl rfl (fun _ _ hs=>N_bs hs Und.h Tsz.h Zr.h rfl rfl rfl rfl rfl) ?_
 refine Wp_pure rfl rfl rfl rfl rfl (fun _=>A_indexAddr (k:=k) Und.h Tsz.h rfl rfl hk hkl) ?_;refine z_f ?_
 refine Wp_eff (h1:=(rsv (Heap.add h11 _))) [0,1,2,3,8,9,10,13,14] (by kernel_rfl) rfl (Stl_nil rfl) rfl rfl rfl (W1_store rfl rfl Tsz.h rfl rfl gPD rfl rfl hlayP (fun h12 hU12=>?_))
 have hP:=(hOD.pick (x:=ceI bP (rows.flatMap Subtype.val) 56 true) 2 rfl).putCe hwD hED hw5 hU12
 have hE12:=hP.2
 have hO13:Own h5 h12 [ceI bP ((rows.flatMap Subtype.val).set (k*7+3) (.slice (some ⟨h11.nx,0,none⟩) 1 1)) 56 true,ceI h11.nx [i64 (i:Nat)] 3 false,ceI bQ (rows.flatMap Subtype.val) 56 true,ceI (bu+1) [i64 t.first,.slice a1 t.lands.length c1,.slice at' t.travel.length ct,.slice av t.venues.length cv,.slice a2 t.rights.length c2,.slice (some ⟨bQ,0,some 7⟩) t.prints.length t.prints.length,.slice a4 t.packs.length c4,.slice a5 t.keys.length c5,.slice a6 t.loans.length c6] 31 false,ceI bu [i64 t.first,.slice a1 t.lands.length c1,.slice at' t.travel.length ct,.slice av t.venues.length cv,.slice a2 t.rights.length c2,.slice (some ⟨bP,0,some 7⟩) t.prints.length t.prints.length,.slice a4 t.packs.length c4,.slice a5 t.keys.length c5,.slice a6 t.loans.length c6] 31 false]:=hP.1
 clear hP
 have hU12x:=Upd.mk' h12 (h11.nx+1) (.cells [i64 (left:Nat)] 3 false)
 have hn12:h11.nx+1<h12.nx:=by rw[hU12.nx];exact Nat.lt_succ_self _
 have hw12:WF h12:=hwD.upd hU12 (show bP<h11.nx+1+1 by omega)
 have hw12x:=hw12.upd hU12x hn12
 have hE12x:=hU12x.ext hE12 hw5 (by omega)
 have hO14:=hO13.other (.cells [i64 (left:Nat)] 3 false) (b:=h11.nx+1) (fun x hx c hc=>by
  simp only[List.mem_cons,List.not_mem_nil,or_false] at hx
  rcases hx with rfl|rfl|rfl|rfl|rfl
  ·have:c=bP:=hc
   omega
  ·have:c=h11.nx:=hc
   omega
  ·have:c=bQ:=hc
   omega
  ·have:c=(bu+1):=hc
   omega
  ·have:c=bu:=hc
   omega)
 have hO15:=Own.add1 hO14 (y:=ceI (h11.nx+1) [i64 (left:Nat)] 3 false) hU12x.at' (fun c hc=>by
  have:c=h11.nx+1:=hc
  omega) (fun x hx c hc hyc=>by
  have e:c=h11.nx+1:=hyc
  simp only[List.mem_cons,List.not_mem_nil,or_false] at hx
  rcases hx with rfl|rfl|rfl|rfl|rfl
  ·have:c=bP:=hc
   omega
  ·have:c=h11.nx:=hc
   omega
  ·have:c=bQ:=hc
   omega
  ·have:c=(bu+1):=hc
   omega
  ·have:c=bu:=hc
   omega)
 have hg2y:=hE12.get hg2
 have hg3y:=hE12.get hg3
 have gVy:h12.get (bu+1)=_:=hO13.at (x:=ceI (bu+1) [i64 t.first,.slice a1 t.lands.length c1,.slice at' t.travel.length ct,.slice av t.venues.length cv,.slice a2 t.rights.length c2,.slice (some ⟨bQ,0,some 7⟩) t.prints.length t.prints.length,.slice a4 t.packs.length c4,.slice a5 t.keys.length c5,.slice a6 t.loans.length c6] 31 false) 3 rfl
 have hg2x:=hE12x.get hg2
 have hg3x:=hE12x.get hg3
 have gUx:(h12.set (h11.nx+1) (.cells [i64 (left:Nat)] 3 false)).get bu=_:=hO15.at (x:=ceI bu [i64 t.first,.slice a1 t.lands.length c1,.slice at' t.travel.length ct,.slice av t.venues.length cv,.slice a2 t.rights.length c2,.slice (some ⟨bP,0,some 7⟩) t.prints.length t.prints.length,.slice a4 t.packs.length c4,.slice a5 t.keys.length c5,.slice a6 t.loans.length c6] 31 false) 5 rfl
 have gVx:(h12.set (h11.nx+1) (.cells [i64 (left:Nat)] 3 false)).get (bu+1)=_:=hO15.at (x:=ceI (bu+1) [i64 t.first,.slice a1 t.lands.length c1,.slice at' t.travel.length ct,.slice av t.venues.length cv,.slice a2 t.rights.length c2,.slice (some ⟨bQ,0,some 7⟩) t.prints.length t.prints.length,.slice a4 t.packs.length c4,.slice a5 t.keys.length c5,.slice a6 t.loans.length c6] 31 false) 4 rfl
 have gQx:(h12.set (h11.nx+1) (.cells [i64 (left:Nat)] 3 false)).get bQ=_:=hO15.at (x:=ceI bQ (rows.flatMap Subtype.val) 56 true) 3 rfl
 refine Wp_pure rfl rfl rfl rfl rfl (fun _=>A_indexAddr (k:=k) Und.h Tsz.h rfl rfl hk hkl) ?_;refine z_f ?_
 refine Wp_eff (h1:=(h12.set (h11.nx+1) (.cells [i64 (left:Nat)] 3 false))) [0,1,2,3,4,5,6,7,8,9,10,11,12,13,14,15,16,17] (by kernel_rfl) rfl (by refine Stl_new (i:=12) (nk:=.sl _ _) rfl rfl rfl rfl rfl (fun _ _ hs=>N_bs hs Und.h Tsz.h Zr.h rfl rfl rfl rfl rfl) rfl ?_;refine t_m 11 ?_;refine t_l 7 ?_;refine t_f 6 ?_;refine t_l 5 ?_;refine t_f 4 ?_;exact Stl_nil rfl) rfl rfl rfl (W1_store rfl rfl Tsz.h rfl rfl gQx rfl rfl hlayQ (fun h13 hU13=>?_))
 have hP:=(hO15.pick (x:=ceI bQ (rows.flatMap Subtype.val) 56 true) 3 rfl).putCe hw12x hE12x hw5 hU13
 have hE13:=hP.2
 have hO16:Own h5 h13 [ceI bQ ((rows.flatMap Subtype.val).set (k*7+3) (.slice (some ⟨h11.nx+1,0,none⟩) 1 1)) 56 true,ceI (h11.nx+1) [i64 (left:Nat)] 3 false,ceI bP ((rows.flatMap Subtype.val).set (k*7+3) (.slice (some ⟨h11.nx,0,none⟩) 1 1)) 56 true,ceI h11.nx [i64 (i:Nat)] 3 false,ceI (bu+1) [i64 t.first,.slice a1 t.lands.length c1,.slice at' t.travel.length ct,.slice av t.venues.length cv,.slice a2 t.rights.length c2,.slice (some ⟨bQ,0,some 7⟩) t.prints.length t.prints.length,.slice a4 t.packs.length c4,.slice a5 t.keys.length c5,.slice a6 t.loans.length c6] 31 false,ceI bu [i64 t.first,.slice a1 t.lands.length c1,.slice at' t.travel.length ct,.slice av t.venues.length cv,.slice a2 t.rights.length c2,.slice (some ⟨bP,0,some 7⟩) t.prints.length t.prints.length,.slice a4 t.packs.length c4,.slice a5 t.keys.length c5,.slice a6 t.loans.length c6] 31 false]:=hP.1
 clear hP
 refine Wp_end (h1:=h13) (Stl_nil rfl) rfl ?_
 have gQ:h13.get bQ=_:=hO16.at (x:=ceI bQ _ _ _) 0 rfl
 have gB:h13.get (h11.nx+1)=_:=hO16.at (x:=ceI (h11.nx+1) _ _ _) 1 rfl
 have gP:h13.get bP=_:=hO16.at (x:=ceI bP _ _ _) 2 rfl
 have gA:h13.get h11.nx=_:=hO16.at (x:=ceI h11.nx _ _ _) 3 rfl
 replace gV:h13.get (bu+1)=_:=hO16.at (x:=ceI (bu+1) _ _ _) 4 rfl
 replace gU:h13.get bu=_:=hO16.at (x:=ceI bu _ _ _) 5 rfl
 replace hg1:=hE13.get hg1
 replace hg2:=hE13.get hg2
 replace hg3:=hE13.get hg3
 replace hY:RowsAt 3 TtlR h13 aY Y:=RowsAt.ext (R:=TtlR) (fun x _=>x) hY hE13
 replace hE:=hE.trans hE13
 clear hg2y hg3y gVy hO16 hO15 hO14 hO13 hU13 hU12 hU12x hE13 hE12 hE12x hw12 hw12x hn12 hg2x hg3x gUx gVx gQx hlayP hlayQ hOD gPD hED hxD hwD hg2D hg3D gUD gVD hg2b hg3b lQ lP lV lU lo11 hO12' hE11 hw11 hO7 hw7 hE7 hlo7
 generalize h11.nx=bA at *
 clear h12
 have hIu:IntsAt h13 (some ⟨bA,0,none⟩) [(i:Int)]:=fun j hj=>by
  have:j=0:=by simpa using hj
  subst this
  exact⟨bA,0,none,rfl,cellAt_cells gA rfl⟩
 have hIv:IntsAt h13 (some ⟨bA+1,0,none⟩) [(left:Int)]:=fun j hj=>by
  have:j=0:=by simpa using hj
  subst this
  exact⟨bA+1,0,none,rfl,cellAt_cells gB rfl⟩
 have hpu:=prints_set (sp:=some 7) hrl hrp hE hkl hIu gP
 have hpv:=prints_set (sp:=some 7) hrl hrp hE hkl hIv gQ
 have htu:ScTAt h13 [i64 t.first,.slice a1 t.lands.length c1,.slice at' t.travel.length ct,.slice av t.venues.length cv,.slice a2 t.rights.length c2,.slice (some ⟨bP,0,some 7⟩) t.prints.length t.prints.length,.slice a4 t.packs.length c4,.slice a5 t.keys.length c5,.slice a6 t.loans.length c6] (oneT t k i):=by
  refine⟨a1,c1,at',ct,av,cv,a2,c2,some ⟨bP,0,some 7⟩,t.prints.length,a4,c4,a5,c5,a6,c6,?_,m1.ext hE,RowsAt.ext (R:=ScTvR) (fun x y=>ScTvR.ext x y) m2 hE,RowsAt.ext (R:=ScVR) (fun x _=>x) m3 hE,RowsAt.ext (R:=ScRR) (fun x _=>x) m4 hE,hpu,RowsAt.ext (R:=ScPkR) (fun x _=>x) m6 hE,RowsAt.ext (R:=ScKR) (fun x _=>x) m7 hE,RowsAt.ext (R:=ScLR) (fun x _=>x) m8 hE⟩
  rw[oneT_len];rfl
 have htv:ScTAt h13 [i64 t.first,.slice a1 t.lands.length c1,.slice at' t.travel.length ct,.slice av t.venues.length cv,.slice a2 t.rights.length c2,.slice (some ⟨bQ,0,some 7⟩) t.prints.length t.prints.length,.slice a4 t.packs.length c4,.slice a5 t.keys.length c5,.slice a6 t.loans.length c6] (oneT t k left):=by
  refine⟨a1,c1,at',ct,av,cv,a2,c2,some ⟨bQ,0,some 7⟩,t.prints.length,a4,c4,a5,c5,a6,c6,?_,m1.ext hE,RowsAt.ext (R:=ScTvR) (fun x y=>ScTvR.ext x y) m2 hE,RowsAt.ext (R:=ScVR) (fun x _=>x) m3 hE,RowsAt.ext (R:=ScRR) (fun x _=>x) m4 hE,hpv,RowsAt.ext (R:=ScPkR) (fun x _=>x) m6 hE,RowsAt.ext (R:=ScKR) (fun x _=>x) m7 hE,RowsAt.ext (R:=ScLR) (fun x _=>x) m8 hE⟩
  rw[oneT_len];rfl
 have hli:left<=i:=by
  rw[<-hLe]
  exact Nat.le_trans (List.length_filter_le _ _) (by rw[List.length_range];exact Nat.le_refl _)
 have hiI:I64 (i:Int):=⟨by omega,by omega⟩
 have hlI:I64 (left:Int):=⟨by omega,by omega⟩
 have hFu:=oneT_fit hT k hiI
 have hFv:=oneT_fit hT k hlI
 have hcase:(left=0/\(longV (oneT t k left) s).2≠0)\/(1<=left/\(longV (oneT t k left) s).2=(longV (oneT t k i) s).2):=by
  by_cases h0:left=0
  ·refine .inl ⟨h0,?_⟩
   rw[h0]
   have:=one_zero (t:=t) hkl
   unfold longV
   rw[if_neg (show ¬errSc (oneT t k ((0:Nat):Int))=0 from this)]
   exact this
  ·refine .inr ⟨by omega,?_⟩
   unfold longV
   rw[one_err (n:=(left:Int)) (m:=(i:Int)) (by omega) (by omega),one_shown,one_shown]
   split
   ·split <;> rfl
   ·rfl
 refine zy ?_
 refine Wo_callE rfl rfl rfl rfl rfl Bod.h rfl rfl (scLong_sv htu hFu hs rfl) fun h14 hE14=>?_
 replace hE:=hE.trans hE14
 replace gU:=hE14.get gU
 replace gV:=hE14.get gV
 replace hg2:=hE14.get hg2
 replace hg3:=hE14.get hg3
 replace hY:RowsAt 3 TtlR h14 aY Y:=RowsAt.ext (R:=TtlR) (fun x _=>x) hY hE14
 refine zy ?_
 refine Wo_callE rfl rfl rfl rfl rfl Bod.h rfl rfl (scLong_sv (htv.ext hE14) hFv hs rfl) fun h15 hE15=>?_
 replace hE:=hE.trans hE15
 replace gU:=hE15.get gU
 replace hg2:=hE15.get hg2
 replace hg3:=hE15.get hg3
 replace hY:RowsAt 3 TtlR h15 aY Y:=RowsAt.ext (R:=TtlR) (fun x _=>x) hY hE15
 have hru:=refScLong_sv ((htu.ext hE14).ext hE15) hFu hs (rfl:ScSR h15 _ s)
 clear htu htv hpu hpv hIu hIv gA gB gP gQ gV hE14 hE15 hFu hFv
 by_cases hbad:(longV (oneT t k i) s).2≠0
 ·generalize (longV (oneT t k i) s).1=M at *
  generalize (longV (oneT t k i) s).2=e at *
  generalize (longV (oneT t k left) s).1=M2 at *
  generalize (longV (oneT t k left) s).2=f at *
  refine zy ?_
  refine Wo_do rfl rfl rfl rfl (A_tt hbad (A_neq rfl rfl)) ?_
  refine zy ?_
  refine Wo_callE rfl rfl rfl rfl rfl Bod.h rfl rfl (hru) fun h16 hE16=>?_
  replace hE:=hE.trans hE16
  refine zy ?_
  refine Wo_do rfl rfl rfl rfl (A_tt rfl (A_eql rfl rfl)) ?_
  refine zy ?_
  rcases hcase with ⟨c1,c2⟩|⟨c1,c2⟩
  ·refine Wo_do rfl rfl rfl rfl (A_tt (by omega) (A_eql rfl rfl)) ?_
   refine zy ?_
   refine Wo_callV rfl rfl rfl rfl rfl Bod.h rfl rfl (awake_sv (hTb.ext hE)) ?_
   refine zy ?_
   exact Wc_ret (Lv_ret rfl ⟨rfl,hE⟩)
  ·refine Wo_do rfl rfl rfl rfl (A_ff (by omega) (A_eql rfl rfl)) ?_
   refine zy ?_
   refine Wo_do rfl rfl rfl rfl (A_tt c2 (A_eql rfl rfl)) ?_
   refine zy ?_
   refine Wo_callV rfl rfl rfl rfl rfl Bod.h rfl rfl (awake_sv (hTb.ext hE)) ?_
   refine zy ?_
   exact Wc_ret (Lv_ret rfl ⟨rfl,hE⟩)
 rcases hcase with ⟨c1,c2⟩|⟨c1,c2⟩
 ·generalize (longV (oneT t k i) s).1=M at *
  generalize he:(longV (oneT t k i) s).2=e at *
  generalize (longV (oneT t k left) s).1=M2 at *
  generalize (longV (oneT t k left) s).2=f at *
  refine zy ?_
  refine Wo_do rfl rfl rfl rfl (A_ff hbad (A_neq rfl rfl)) ?_
  refine zy ?_
  refine Wo_do rfl rfl rfl rfl (A_tt c2 (A_neq rfl rfl)) ?_
  refine zy ?_
  refine Wo_callE rfl rfl rfl rfl rfl Bod.h rfl rfl (hru) fun h16 hE16=>?_
  replace hE:=hE.trans hE16
  refine zy ?_
  refine Wo_do rfl rfl rfl rfl (A_tt rfl (A_eql rfl rfl)) ?_
  refine zy ?_
  refine Wo_do rfl rfl rfl rfl (A_tt (by omega) (A_eql rfl rfl)) ?_
  refine zy ?_
  refine Wo_callV rfl rfl rfl rfl rfl Bod.h rfl rfl (awake_sv (hTb.ext hE)) ?_
  refine zy ?_
  exact Wc_ret (Lv_ret rfl ⟨rfl,hE⟩)
 have hb2':¬(longV (oneT t k left) s).2≠0:=by rw[c2];exact hbad
 obtain⟨u1,u2⟩:=longV_ok hbad
 obtain⟨v1,v2⟩:=longV_ok hb2'
 rw[longV_eq u1 u2,longV_eq v1 v2]
 have hs0:shownErr t s=0:=one_shown.symm.trans u2
 have hpr0:0<=s.print:=by omega
 have hkp:k=s.print.toNat:=by omega
 obtain⟨-,-,-,⟨sp1,sp2⟩,-⟩:=shown_ok hs0
 rw[show longS (oneT t k i) s=upS (upS (i:Int) s.speed) 60 by rw[hkp];exact one_long hs0 hpr0,show longS (oneT t k left) s=upS (upS (left:Int) s.speed) 60 by rw[hkp];exact one_long hs0 hpr0]
 have w1:=upS_mono (b:=s.speed) sp1 (show (left:Int)<=i by omega)
 have w2:=upS_mono (b:=60) (by omega) w1
 have w3:=upS_pos (a:=(left:Int)) (b:=s.speed) (by omega) sp1
 have w4:=upS_pos (a:=upS (left:Int) s.speed) (b:=60) w3 (by omega)
 have w5:=upS_le (a:=(left:Int)) (b:=s.speed) (by omega) sp1
 have w6:=upS_le (a:=upS (left:Int) s.speed) (b:=60) w3 (by omega)
 have w7:=upS_pos (a:=(i:Int)) (b:=s.speed) (by omega) sp1
 have w8:=upS_le (a:=(i:Int)) (b:=s.speed) (by omega) sp1
 have w9:=upS_le (a:=upS (i:Int) s.speed) (b:=60) w7 (by omega)
 have hover:=fun {x:Int} (h0:0<=x) (h1:x<left)=>over_by (speed:=s.speed) h0 h1 sp1
 clear hru c2 hb2' hbad u1 u2 v1 v2
 generalize upS (upS (i:Int) s.speed) 60=M at *
 generalize upS (upS (left:Int) s.speed) 60=M2 at *
 refine zy ?_
 refine Wo_do rfl rfl rfl rfl (A_ff (by exact fun e=>e rfl) (A_neq rfl rfl)) ?_
 refine zy ?_
 refine Wo_do rfl rfl rfl rfl (A_ff (by exact fun e=>e rfl) (A_neq rfl rfl)) ?_
 refine zy ?_
 refine Wo_do rfl rfl rfl rfl (A_ff (by omega) (A_gtr rfl rfl)) ?_
 refine zy ?_
 refine Wo_do rfl rfl rfl rfl (A_ff (by omega) (A_lss rfl rfl)) ?_
 refine zy ?_
 have hcuts:=cuts_each hco
 have hcr:=cuts_rng hco n2
 obtain⟨hl40,htl,hpw⟩:=titles_each hte
 have hYl:Y.length<=l.length:=by rw[<-hYe];exact List.length_filterMap_le _ _
 refine Wc_loop (fun (q:Nat×Nat×Nat) m ds h'=>ds=[]/\q.1<=Y.length/\q.2.1<=q.2.2/\q.2.2<=l.length/\Y.drop q.1=retimeS cs (l.drop q.2.2)/\Ext h15 h'/\AllK m [(3,.pointer (some ⟨b2,0,none⟩)),(5,.pointer (some ⟨b3,0,none⟩)),(6,.slice aY Y.length cY),(8,i64 (left:Nat)),(15,i64 M2),(19,i64 (q.2.1:Nat)),(20,i64 (q.1:Nat))]) (fun q=>Y.length-q.1) (0,0,0) ?_ ?_
 ·exact⟨rfl,Nat.zero_le _,Nat.le_refl _,Nat.zero_le _,hYe.symm,Ext.refl _,rfl,rfl,rfl,rfl,rfl,rfl,rfl,trivial⟩
 rintro⟨j,kk,mm⟩ m ds h16 ⟨rfl,hj,hkm,hml,hdr,hE16,hall⟩
 simp only at hj hkm hml hdr hall
 replace hg2:=hE16.get hg2
 replace hg3:=hE16.get hg3
 refine Wc.le ?_ (Le.kn hall)
 clear hall
 refine zy ?_
 refine Wo_dec rfl rfl rfl rfl (A_lss rfl rfl) (fun hlt=>?_) (fun hlt=>?_)
 rotate_left
 ·refine zy ?_
  refine Wo_callV rfl rfl rfl rfl rfl Bod.h rfl rfl (awake_sv (hTb.ext (hE.trans hE16))) ?_
  refine zy ?_
  exact Wc_ret (Lv_ret rfl ⟨rfl,hE.trans hE16⟩)
 have hj':j<Y.length:=by omega
 obtain⟨bY,oY,oaY,rfl,rowy,hry,hmy⟩:=hY j hj'
 rw[List.drop_eq_getElem_cons hj'] at hdr
 obtain⟨q,hq,hret,hrest⟩:=retime_next hdr.symm
 have hp':mm+q<l.length:=by rw[List.length_drop] at hq;omega
 rw[show (l.drop mm)[q]=l[mm+q] from List.getElem_drop] at hret
 rw[List.drop_drop,show mm+(q+1)=mm+q+1 by omega] at hrest
 have hkp':kk<=mm+q:=by omega
 clear hdr hq hml hkm
 generalize mm+q=p at *
 obtain⟨bl,ol,oal,rfl,-⟩:=hl p hp'
 have hx:=htl _ (List.getElem_mem hp')
 have hbx:=hbn _ (List.getElem_mem hp')
 have hyl:=retime_left (n:=i) ⟨hx.1,hx.2.1⟩ hbx hret
 obtain⟨hyt,-,-,hyin⟩:=retime_in hcuts ⟨hx.1,hx.2.1⟩ hret
 rw[hLe] at hyl
 have hlater:∀z (hz:z<p),(l[z]'(by omega)).b<l[p].a:=fun z hz=>List.pairwise_iff_getElem.1 hpw z p (by omega) hp' hz
 generalize Y[j]=y at *
 obtain rfl:=hmy
 replace hry:=hE16.row hry
 obtain⟨y1,y2,y3⟩:=hyl
 have ry1:=beforeC_rng y1 hcr
 have ry2:=beforeC_rng (show 0<=y.b by omega) hcr
 have f1:=hyin y.a (Int.le_refl _) y2 ry1.1
 have f2:=hyin y.b y2 (Int.le_refl _) ry2.1
 have hov:=hover (show 0<=y.b by omega) y3
 have hov0:=Int.ediv_nonneg (show 0<=y.b+s.speed by omega) (show 0<=s.speed by omega)
 have htd:(y.b+s.speed).tdiv s.speed=(y.b+s.speed) / s.speed:=Int.tdiv_eq_ediv_of_nonneg (by omega)
 generalize (y.b+s.speed) / s.speed=D at *
 have hbv1:beforeV (i:Int) cs y.a=(beforeC cs y.a,0):=by unfold beforeV;rw[if_neg (fun e=>e hct),if_neg (by omega)]
 have hbv2:beforeV (i:Int) cs y.b=(beforeC cs y.b,0):=by unfold beforeV;rw[if_neg (fun e=>e hct),if_neg (by omega)]
 have hEh:=hE.trans hE16
 have hs1:=before_sv (cc:=cc) hI (show I64 y.a from⟨by omega,by omega⟩) (RowsAt.ext (R:=CutR) (fun x _=>x) hcs hEh) hcF hcL
 rw[hbv1] at hs1
 have z0:cellAt h16 bY (oY+j*3+0)=some (i64 y.a):=cell_of_row hry rfl
 have z1:cellAt h16 bY (oY+j*3+1)=some (i64 y.b):=cell_of_row hry rfl
 refine zy ?_
 refine Wc_draw hmix [0,0,3,7,15,0,63,127,255,255,1023,2047,4095,255,8447,32767,255,65791,262143,255,524543,2097151,4194303] [0,1,2,3,4,5,6,7,8,9,10,11,12,13,14,15,16,17,18,19,20,21,22] none [] (by kernel_rfl) (by kernel_rfl) ?_
 refine z_m ?_;refine z_m ?_;refine Wp_pure rfl rfl rfl rfl rfl (fun _=>A_indexAddr (k:=j) Und.h Tsz.h rfl rfl rfl hj') ?_;refine z_f ?_;refine z_l ?_;refine z_m ?_;refine Wp_pure rfl rfl rfl rfl rfl (fun _=>A_ff (by omega) (A_geq rfl rfl)) ?_;refine z_m ?_;refine g_m ?_;refine g_m ?_
 first|refine Wp_off rfl rfl rfl rfl ?_|refine Wp_pure rfl rfl rfl rfl rfl (fun _=>A_indexAddr (k:=j) Und.h Tsz.h rfl rfl rfl hj') ?_
 refine g_f ?_;refine g_l ?_;refine g_f ?_;refine g_l ?_
 first|refine Wp_off rfl rfl rfl rfl ?_|refine Wp_pure rfl rfl rfl rfl rfl (fun _=>A_add rfl rfl (by omega) (by omega)) ?_
 refine g_f ?_;refine g_l ?_
 first|refine Wp_off rfl rfl rfl rfl ?_|refine Wp_pure rfl rfl rfl rfl rfl (fun _=>A_quo rfl rfl (by omega) htd (by omega) (by omega)) ?_
 refine g_m ?_
 first|refine Wp_off rfl rfl rfl rfl ?_|refine Wp_pure rfl rfl rfl rfl rfl (fun _=>A_mul rfl rfl (by omega) (by omega)) ?_
 first|refine Wp_off rfl rfl rfl rfl ?_|refine Wp_pure rfl rfl rfl rfl rfl (fun _=>A_ff (by omega) (A_gtr rfl rfl)) ?_
 refine z_p ?_
 refine Wp_end (Stl_nil rfl) nb' ?_
 refine zy ?_
 refine Wc_draw hmix [0,1,0,4,0,0,48,112,240,511,1023,2047,2047,4095,16383] [0,1,2,3,4,5,6,7,8] (some 9) [([10,11,12],(some 13)),([],(some 14)),([],none)] (by kernel_rfl) (by kernel_rfl) ?_
 refine z_f ?_;refine z_l ?_;refine z_f ?_;refine z_l ?_;refine z_m ?_;refine z_m ?_;refine Wp_pure rfl rfl rfl rfl rfl (fun _=>A_indexAddr (k:=j) Und.h Tsz.h rfl rfl rfl hj') ?_;refine z_f ?_;refine z_l ?_
 refine Wp_eff [0,1,2,3,4,5,6,7,8] (by kernel_rfl) rfl (Stl_nil rfl) rfl nb rfl (W1_callE rfl rfl rfl rfl rfl Bod.h hs1 (fun h17 hE17=>?_))
 replace hg2:=hE17.get hg2
 replace hg3:=hE17.get hg3
 replace z0:=hE17.cell z0
 replace z1:=hE17.cell z1
 replace hry:=hE17.row hry
 refine z_m ?_;refine z_e ?_;refine z_e ?_
 refine Wp_eff [0,1,2,3,4,5,6,7,8,9,10,11] (by kernel_rfl) rfl (Stl_nil rfl) rfl nb rfl (W1_op rfl rfl (A_assign rfl) ?_)
 refine Wp_eff [0,1,2,3,4,5,6,7,8,9,10,11,12,13] (by kernel_rfl) rfl (by refine t_e 12 ?_;exact Stl_nil rfl) rfl nb rfl (W1_op rfl rfl (A_assign rfl) ?_)
 refine Wp_end (Stl_nil rfl) nb' ?_
 replace hE16:=hE16.trans hE17
 replace hEh:=hEh.trans hE17
 clear hs1 hE17
 clear h16
 have hs2:=before_sv (cc:=cc) hI (show I64 y.b from⟨by omega,by omega⟩) (RowsAt.ext (R:=CutR) (fun x _=>x) hcs hEh) hcF hcL
 rw[hbv2] at hs2
 refine zy ?_
 refine Wc_draw hmix [0,1,0,4,0,0,48,112,240,511,1023,2047,2047,4095,16383] [0,1,2,3,4,5,6,7,8] (some 9) [([10,11,12],(some 13)),([],(some 14)),([],none)] (by kernel_rfl) (by kernel_rfl) ?_
 refine z_f ?_;refine z_l ?_;refine z_f ?_;refine z_l ?_;refine z_m ?_;refine z_m ?_;refine Wp_pure rfl rfl rfl rfl rfl (fun _=>A_indexAddr (k:=j) Und.h Tsz.h rfl rfl rfl hj') ?_;refine z_f ?_;refine z_l ?_
 refine Wp_eff [0,1,2,3,4,5,6,7,8] (by kernel_rfl) rfl (Stl_nil rfl) rfl nb rfl (W1_callE rfl rfl rfl rfl rfl Bod.h hs2 (fun h18 hE18=>?_))
 replace hg2:=hE18.get hg2
 replace hg3:=hE18.get hg3
 replace z0:=hE18.cell z0
 replace z1:=hE18.cell z1
 replace hry:=hE18.row hry
 refine z_m ?_;refine z_e ?_;refine z_e ?_
 refine Wp_eff [0,1,2,3,4,5,6,7,8,9,10,11] (by kernel_rfl) rfl (Stl_nil rfl) rfl nb rfl (W1_op rfl rfl (A_assign rfl) ?_)
 refine Wp_eff [0,1,2,3,4,5,6,7,8,9,10,11,12,13] (by kernel_rfl) rfl (by refine t_e 12 ?_;exact Stl_nil rfl) rfl nb rfl (W1_op rfl rfl (A_assign rfl) ?_)
 refine Wp_end (Stl_nil rfl) nb' ?_
 replace hE16:=hE16.trans hE18
 replace hEh:=hEh.trans hE18
 clear hs2 hE18
 clear h17
 clear hbv1 hbv2 htd hov hov0
 generalize beforeC cs y.a=fr at *
 generalize beforeC cs y.b=la at *
 refine zy ?_
 refine Wc_loop (fun (z:Nat) m ds h'=>ds=[]/\h18=h'/\z<=p/\AllK m [(3,.pointer (some ⟨b2,0,none⟩)),(5,.pointer (some ⟨b3,0,none⟩)),(6,.slice (some ⟨bY,oY,oaY⟩) Y.length cY),(8,i64 (left:Nat)),(15,i64 M2),(19,i64 (z:Nat)),(20,i64 (j:Nat)),(21,i64 fr),(22,i64 0),(23,i64 la),(24,i64 0)]) (fun z=>p-z) kk ?_ ?_
 ·exact⟨rfl,rfl,hkp',rfl,rfl,rfl,rfl,rfl,rfl,rfl,rfl,rfl,rfl,rfl,trivial⟩
 rintro z m ds h' ⟨rfl,rfl,hzp,hall⟩
 refine Wc.le ?_ (Le.kn hall)
 clear hall
 have hzl:z<l.length:=by omega
 obtain⟨bl',ol',oal',el',rowz,hrz,hmz⟩:=hl z hzl
 cases el'
 obtain rfl:=hmz
 replace hrz:=hEh.row hrz
 have q0:cellAt h18 bl (ol+z*3+0)=some (i64 l[z].a):=cell_of_row hrz rfl
 have q1:cellAt h18 bl (ol+z*3+1)=some (i64 l[z].b):=cell_of_row hrz rfl
 have q2:cellAt h18 bl (ol+z*3+2)=some (str l[z].text):=cell_of_row hrz rfl
 have z2:cellAt h18 bY (oY+j*3+2)=some (str y.text):=cell_of_row hry rfl
 refine zy ?_
 refine Wo_do rfl rfl rfl rfl (A_tt (by omega) (A_lss rfl rfl)) ?_
 refine zy ?_
 refine Wo_do rfl rfl rfl rfl (A_indexAddr (k:=z) Und.h Tsz.h rfl rfl rfl hzl) ?_
 refine zy ?_
 by_cases hz:z<p
 ·have hbz:=hlater z hz
  refine Wo_do rfl rfl rfl rfl (A_tt (by omega) (A_lss rfl rfl)) ?_
  refine zy ?_
  exact⟨z+1,(by show p-(z+1)<p-z;omega),rfl,rfl,hz,rfl,rfl,rfl,rfl,rfl,rfl,rfl,rfl,rfl,rfl,rfl,trivial⟩
 have hzp':z=p:=by omega
 subst hzp'
 refine Wo_do rfl rfl rfl rfl (A_ff (by omega) (A_lss rfl rfl)) ?_
 refine zy ?_
 refine Wc_draw hmix [0,1,3,7,15,31,63,127,127,383,895,2047,4095,8191,16383,32767,16383,131071,262143,524287,16383,16383,3162111,7356415,15745023,33554431,67108863,134217727,268435455,268435455,805306367,268435455,4026531839,8321499135,16911433727,34359738367,68719476735,137438953471,274877906943,274877906943,824633720831,274877906943,4123168604159,8521215115263,17317308137471,35184372088831,70368744177663] [0,1,2,3,4,5,6,7,8,9,10,11,12,13,14,15,16,17,18,19,20,21,22,23,24,25,26,27,28,29,30,31,32,33,34,35,36,37,38,39,40,41,42,43,44,45,46] none [] (by kernel_rfl) (by kernel_rfl) ?_
 refine z_m ?_;refine Wp_pure rfl rfl rfl rfl rfl (fun _=>A_ff (by exact fun e=>e rfl) (A_neq rfl rfl)) ?_;refine z_m ?_;refine g_m ?_
 first|refine Wp_off rfl rfl rfl rfl ?_|refine Wp_pure rfl rfl rfl rfl rfl (fun _=>A_ff (by exact fun e=>e rfl) (A_neq rfl rfl)) ?_
 refine z_p ?_;refine z_m ?_;refine g_m ?_;refine g_f ?_;refine g_l ?_;refine g_c ?_
 first|refine Wp_off rfl rfl rfl rfl ?_|refine Wp_pure rfl rfl rfl rfl rfl (fun _=>A_ff (by omega) (A_eql rfl rfl)) ?_
 refine z_p ?_;refine z_m ?_;refine g_f ?_;refine g_l ?_;refine g_m ?_
 first|refine Wp_off rfl rfl rfl rfl ?_|refine Wp_pure rfl rfl rfl rfl rfl (fun _=>A_indexAddr (k:=z) Und.h Tsz.h rfl rfl rfl hzl) ?_
 refine g_f ?_;refine g_l ?_;refine g_m ?_;refine g_m ?_
 first|refine Wp_off rfl rfl rfl rfl ?_|refine Wp_pure rfl rfl rfl rfl rfl (fun _=>A_indexAddr (k:=j) Und.h Tsz.h rfl rfl rfl hj') ?_
 refine g_f ?_;refine g_l ?_
 first|refine Wp_off rfl rfl rfl rfl ?_|refine Wp_pure rfl rfl rfl rfl rfl (fun _=>A_ff (by exact fun e=>e hyt.symm) (A_neqStr rfl rfl)) ?_
 refine z_p ?_;refine z_m ?_;refine g_m ?_;refine g_f ?_;refine g_l ?_;refine g_m ?_
 first|refine Wp_off rfl rfl rfl rfl ?_|refine Wp_pure rfl rfl rfl rfl rfl (fun _=>A_indexAddr (k:=z) Und.h Tsz.h rfl rfl rfl hzl) ?_
 refine g_f ?_;refine g_l ?_
 first|refine Wp_off rfl rfl rfl rfl ?_|refine Wp_pure rfl rfl rfl rfl rfl (fun _=>A_ff (by omega) (A_lss rfl rfl)) ?_
 refine z_p ?_;refine z_m ?_;refine g_m ?_;refine g_f ?_;refine g_l ?_;refine g_m ?_
 first|refine Wp_off rfl rfl rfl rfl ?_|refine Wp_pure rfl rfl rfl rfl rfl (fun _=>A_indexAddr (k:=z) Und.h Tsz.h rfl rfl rfl hzl) ?_
 refine g_f ?_;refine g_l ?_
 first|refine Wp_off rfl rfl rfl rfl ?_|refine Wp_pure rfl rfl rfl rfl rfl (fun _=>A_ff (by omega) (A_gtr rfl rfl)) ?_
 refine z_p ?_
 refine Wp_end (Stl_nil rfl) nb' ?_
 refine zy ?_
 exact⟨(j+1,z,z+1),(by show Y.length-(j+1)<Y.length-j;omega),rfl,hj',Nat.le_succ _,hp',hrest.symm ▸ rfl,hE16,rfl,rfl,rfl,rfl,rfl,rfl,rfl,trivial⟩
end Go.Dw
