/- L1: ScreenChecks: its contract, for any task. -/
import Derived.Test.YtfgeelpahicelaaGreatDoorQG2
import Derived.Test.YtfgeelpahicelaaGreatDoorQG9
import Derived.Test.YtfgeelpahicelaaGreatDoorQRunA
import Derived.Test.YtfgeelpahicelaaGreatDoorQG10
import Derived.Test.YtfgeelpahicelaaGreatDoorQG5
set_option linter.unusedVariables false
set_option linter.unusedSimpArgs false
namespace Go.Dw
open Go Go.Dx Go.Proofs
set_option maxRecDepth 100000
theorem awake_sv {h:Heap}(hT:TabAt spTab h):Sv Tryz.prog 23 [] h (RetP fun v h'=>v=.bool true/\h'=h):=Sv_orcT Go.Dx.awake hT
theorem loansS_len {t:ScT}(hO:ScOk t):(loansS t).2.length=t.loans.length:=by rw[<-lpre_all];exact (lpre_ok hO (Nat.le_refl _)).2.2
end Go.Dw
/- L2: ScreenMays: its contract, for any task and show. -/
namespace Go.Dw
open Go Go.Dx Go.Proofs
set_option maxRecDepth 100000
theorem screenMays_sv {tc sr:List Value}{t:ScT}{s:ScS}{h:Heap}(ht:ScTAt h tc t)(hT:t.Fit)(hs:s.Fit)(hr:ScSR h sr s)(hTb:TabAt spTab h):Sv Tryz.prog 4 [.agg ⟨tc⟩,.agg ⟨sr⟩] h (RetP fun v h'=>v=.bool true/\Ext h h'):=by
 have ht0:=ht
 obtain⟨al,cl,at',ct,a1,c1,a2,c2,a3,c3,a4,c4,a5,c5,a6,c6,rfl,-⟩:=ht
 obtain rfl:=hr
 refine Sv_wf fun hw=>?_
 refine Sv_enter Tryz.func4 rfl (by rw[Tryz.ntmps4];rfl) ?_;show Wc Tryz.prog ⟨4,54,none⟩ _ _ _ _ _
 refine zy ?_
 refine Wo_box rfl rfl rfl fun h1 hE1 hW1 hg1 hn1=>?_
 refine Wo_box rfl rfl rfl fun h2 hE2 hW2 hg2 hn2=>?_
 replace hg1:=hE2.get hg1
 have hE:=hE1.trans hE2
 generalize h.nx=b1 at *
 generalize h1.nx=b2 at *
 clear hE1 hE2 hW1 hn1 hn2
 refine zy ?_
 refine Wo_callE rfl rfl rfl rfl rfl Bod.h rfl rfl (scLong_sv (ht0.ext hE) hT hs rfl) fun h3 hE3=>?_
 replace hg1:=hE3.get hg1
 replace hg2:=hE3.get hg2
 replace hE:=hE.trans hE3
 clear hE3
 refine zy ?_
 refine Wo_callE rfl rfl rfl rfl rfl Bod.h rfl rfl (refScLong_sv (ht0.ext hE) hT hs rfl) fun h4 hE4=>?_
 replace hg1:=hE4.get hg1
 replace hg2:=hE4.get hg2
 replace hE:=hE.trans hE4
 clear hE4
 refine zy ?_
 refine Wo_dec rfl rfl rfl rfl (A_neq rfl rfl) (fun h5=>?_) (fun h5=>?_)
 ·exact absurd rfl h5
 refine zy ?_
 refine Wo_dec rfl rfl rfl rfl (A_neq rfl rfl) (fun h6=>?_) (fun h6=>?_)
 ·exact absurd rfl h6
 refine zy ?_
 refine Wo_callE rfl rfl rfl rfl rfl Bod.h rfl rfl (scMay_sv (ht0.ext hE) hT hs rfl) fun h7 hE7=>?_
 replace hg1:=hE7.get hg1
 replace hg2:=hE7.get hg2
 replace hE:=hE.trans hE7
 clear hE7
 refine zy ?_
 refine Wo_callE rfl rfl rfl rfl rfl Bod.h rfl rfl (refScMay_sv (ht0.ext hE) hT hs rfl) fun h8 hE8=>?_
 replace hE:=hE.trans hE8
 refine zy ?_
 refine Wo_dec rfl rfl rfl rfl (A_eql rfl rfl) (fun h9=>?_) (fun h9=>?_)
 rotate_left
 ·exact absurd rfl h9
 refine zy ?_
 refine Wo_dec rfl rfl rfl rfl (A_eql rfl rfl) (fun h10=>?_) (fun h10=>?_)
 rotate_left
 ·exact absurd rfl h10
 refine zy ?_
 refine Wo_callV rfl rfl rfl rfl rfl Bod.h rfl rfl (awake_sv (hTb.ext hE)) ?_
 refine zy ?_
 exact Wc_ret (Lv_ret rfl ⟨rfl,hE⟩)
end Go.Dw
/- L3: ScreenLent: its contract, for any task. -/
namespace Go.Dw
open Go Go.Dx Go.Proofs
set_option maxRecDepth 100000
def btw (x y:ScL)(p:ScL×Int):Bool:=decide (p.2=0/\p.1.print=x.print/\x.days.lo<p.1.days.lo/\p.1.days.lo<y.days.lo)
theorem lent_btw {t:ScT}(hO:ScOk t){W:List Int}(hW:(loansS t).2=W)(hl:W.length=t.loans.length){i k:Nat}(hi:i<t.loans.length)(hk:k<t.loans.length)(hik:i≠k)(wi:W[i]'(by omega)=0)(wk:W[k]'(by omega)=0)(hp:t.loans[i].print=t.loans[k].print)(hle:t.loans[i].days.lo<=t.loans[k].days.lo) :
  t.loans[i].days.hi<t.loans[k].days.lo/\((t.loans.zip W).any (btw t.loans[i] t.loans[k])=false->0<=trv t (venLand t t.loans[i].venue) (venLand t t.loans[k].venue)/\trv t (venLand t t.loans[i].venue) (venLand t t.loans[k].venue)<t.loans[k].days.lo-t.loans[i].days.hi):=by
 subst hW
 have hg:∀m (hm:m<t.loans.length),(loansS t).2.getD m 1=(loansS t).2[m]'(by omega):=fun m hm=>by rw[List.getD_eq_getElem?_getD,List.getElem?_eq_getElem (by omega)];rfl
 obtain⟨h1,h2⟩:=lent_law hO hi hk hik (by rw[hg i hi];exact wi) (by rw[hg k hk];exact wk) hp.symm hle
 refine⟨h1,fun hb=>h2 fun m hm hw hpm hlt=>?_⟩
 rw[List.any_eq_false] at hb
 have hz:(t.loans.zip (loansS t).2)[m]'(by rw[List.length_zip];omega)=(t.loans[m],(loansS t).2[m]'(by omega)):=List.getElem_zip
 have:=hb _ (List.getElem_mem (show m<(t.loans.zip (loansS t).2).length by rw[List.length_zip];omega))
 rw[hz] at this
 rw[hg m hm] at hw
 exact this (decide_eq_true ⟨hw,hpm,hlt.1,hlt.2⟩)
set_option maxHeartbeats 4000000 in
theorem screenLent_sv {tc:List Value}{t:ScT}{h:Heap}(ht:ScTAt h tc t)(hT:t.Fit)(hTb:TabAt spTab h):Sv Tryz.prog 5 [.agg ⟨tc⟩] h (RetP fun v h'=>v=.bool true/\Ext h h'):=by
 have ht0:=ht
 obtain⟨al,cl,at',ct,a1,c1,a2,c2,a3,c3,a4,c4,a5,c5,a6,c6,rfl,m1,m2,m3,m4,m5,m6,m7,m8⟩:=ht
 refine Sv_wf fun hw=>?_
 refine Sv_enter Tryz.func5 rfl (by rw[Tryz.ntmps5];rfl) ?_;show Wc Tryz.prog ⟨5,194,none⟩ _ _ _ _ _
 refine zy ?_
 refine Wo_box rfl rfl rfl fun h1 hE hW1 hg1 hn1=>?_
 generalize h.nx=b1 at *
 refine zy ?_
 refine Wo_callr rfl rfl rfl rfl rfl Bod.h rfl rfl (scLoans_sv (ht0.ext hE) hT) ?_
 rintro v h2 ⟨hE2,hv⟩
 replace hE:=hE.trans hE2
 replace hg1:=hE2.get hg1
 rcases hv with ⟨he,rfl⟩|⟨he,aW,cW,rfl,hI⟩
 ·refine zy ?_
  refine Wo_callE rfl rfl rfl rfl rfl Bod.h rfl rfl (refScCheck_sv (ht0.ext hE) hT) fun h3 hE3=>?_
  replace hE:=hE.trans hE3
  refine zy ?_
  refine Wo_dec rfl rfl rfl rfl (A_neq rfl rfl) (fun h4=>?_) (fun h4=>?_)
  rotate_left
  ·exact absurd (Decidable.not_not.1 h4) he
  refine zy ?_
  refine Wo_dec rfl rfl rfl rfl (A_eql rfl rfl) (fun h5=>?_) (fun h5=>?_)
  rotate_left
  ·exact absurd rfl h5
  refine zy ?_
  refine Wo_dec rfl rfl rfl rfl (A_eql rfl rfl) (fun h6=>?_) (fun h6=>?_)
  rotate_left
  ·exact absurd rfl h6
  refine zy ?_
  refine Wo_callV rfl rfl rfl rfl rfl Bod.h rfl rfl (awake_sv (hTb.ext hE)) ?_
  refine zy ?_
  exact Wc_ret (Lv_ret rfl ⟨rfl,hE⟩)
 have hO:=sc_ok he
 have hll:=loansS_len hO
 have q1:=hO.loans1
 have q2:=hO.venues1
 have q3:=hO.lands
 generalize hWS:(loansS t).2=W at *
 refine zy ?_
 refine Wo_callE rfl rfl rfl rfl rfl Bod.h rfl rfl (refScCheck_sv (ht0.ext hE) hT) fun h3 hE3=>?_
 replace hE:=hE.trans hE3
 replace hg1:=hE3.get hg1
 replace hI:=hI.ext hE3
 refine zy ?_
 refine Wo_dec rfl rfl rfl rfl (A_neq rfl rfl) (fun h4=>?_) (fun h4=>?_)
 ·exact absurd rfl h4
 refine zy ?_
 refine Wo_do rfl rfl rfl rfl (A_ff (show ¬(checkSc t).2.2≠0 from fun e=>e he) (A_neq rfl rfl)) ?_
 refine zy ?_
 refine Wo_do rfl rfl rfl rfl (A_ff (show ¬(W.length:Int)≠(t.loans.length:Int) from fun e=>e (by rw[hll])) (A_neq rfl rfl)) ?_
 refine zy ?_
 clear hE2 hE3 h4 hW1 hn1
 replace m2:=RowsAt.ext (R:=ScTvR) (fun x y=>ScTvR.ext x y) m2 hE
 replace m3:=RowsAt.ext (R:=ScVR) (fun x _=>x) m3 hE
 replace m8:=RowsAt.ext (R:=ScLR) (fun x _=>x) m8 hE
 clear m1 m4 m5 m6 m7
 refine Wc_loop (fun (i:Nat) m ds h'=>ds=[]/\Ext h3 h'/\i<=W.length/\AllK m [(1,.pointer (some ⟨b1,0,none⟩)),(3,.slice aW W.length cW),(8,i64 i)]) (fun i=>W.length-i) 0 ?_ ?_
 ·exact⟨rfl,Ext.refl _,Nat.zero_le _,rfl,rfl,rfl,trivial⟩
 rintro i m ds h5 ⟨rfl,hE5,hi,hall⟩
 refine Wc.le ?_ (Le.kn hall)
 refine zy ?_
 refine Wo_dec rfl rfl rfl rfl (A_lss rfl rfl) (fun h6=>?_) (fun h6=>?_)
 rotate_left
 ·refine zy ?_
  refine Wo_callV rfl rfl rfl rfl rfl Bod.h rfl rfl (awake_sv (hTb.ext (hE.trans hE5))) ?_
  refine zy ?_
  exact Wc_ret (Lv_ret rfl ⟨rfl,hE.trans hE5⟩)
 have hi':i<W.length:=by simpa using h6
 clear hall h6
 refine zy ?_
 refine Wc.mono (Q:=fun z m' ds' h'=>z=.exit 2/\ds'=[]/\Ext h3 h'/\AllK m' [(1,.pointer (some ⟨b1,0,none⟩)),(3,.slice aW W.length cW),(8,i64 i)]) (Wc_loop (fun (k:Nat) m ds h'=>ds=[]/\Ext h3 h'/\k<=W.length/\AllK m [(1,.pointer (some ⟨b1,0,none⟩)),(3,.slice aW W.length cW),(8,i64 i),(9,i64 k)]) (fun k=>W.length-k) 0 ?_ ?_) ?_
 ·exact⟨rfl,hE5,Nat.zero_le _,rfl,rfl,rfl,rfl,trivial⟩
 rotate_left
 ·rintro _ m' ds' h' ⟨rfl,rfl,hE',hall⟩
  show Wc _ _ _ _ _ _ _
  refine Wc.le ?_ (Le.kn hall)
  refine zy ?_
  exact⟨i+1,(by show W.length-(i+1)<W.length-i;omega),rfl,hE',hi',rfl,rfl,rfl,trivial⟩
 clear hE5
 clear h5
 rintro k m ds h5 ⟨rfl,hE5,hk,hall⟩
 refine Wc_wf fun hw5=>?_
 refine Wc.le ?_ (Le.kn hall)
 refine zy ?_
 refine Wo_dec rfl rfl rfl rfl (A_lss rfl rfl) (fun h6=>?_) (fun h6=>?_)
 rotate_left
 ·refine zy ?_
  exact⟨rfl,rfl,hE5,rfl,rfl,rfl,trivial⟩
 have hk':k<W.length:=by simpa using h6
 clear hall h6
 have il:i<t.loans.length:=by omega
 have kl:k<t.loans.length:=by omega
 have k1:=hE5.get hg1
 obtain⟨bl,ol,oal,rfl,rowi,hri,hmi⟩:=m8 i il
 obtain⟨bl',ol',oal',el,rowk,hrk,hmk⟩:=m8 k kl
 cases el
 have hlaw:∀(hik:i≠k),W[i]=0->W[k]=0->t.loans[i].print=t.loans[k].print->t.loans[i].days.lo<=t.loans[k].days.lo->_:=fun hik wi wk hp hle=>lent_btw hO hWS hll il kl hik wi wk hp hle
 have hxi:=ln_ok (hO.loans _ (List.getElem_mem il))
 have hxk:=ln_ok (hO.loans _ (List.getElem_mem kl))
 generalize t.loans[i]=x at *
 generalize t.loans[k]=y at *
 obtain rfl:=hmi
 obtain rfl:=hmk
 replace hri:=hE5.row hri
 replace hrk:=hE5.row hrk
 have hEa:=Ext.add hw5 (.cells [i64 0,i64 0,i64 0,i64 0] 51 false)
 have hEb:=hEa.trans (Ext.add (hw5.add _) (.cells [i64 0,i64 0,i64 0,i64 0] 51 false))
 have ga:((h5.add (.cells [i64 0,i64 0,i64 0,i64 0] 51 false)).add (.cells [i64 0,i64 0,i64 0,i64 0] 51 false)).get h5.nx=some (.cells [i64 0,i64 0,i64 0,i64 0] 51 false):=(Ext.add (hw5.add _) _).get Heap.get_add_same
 have gb:((h5.add (.cells [i64 0,i64 0,i64 0,i64 0] 51 false)).add (.cells [i64 0,i64 0,i64 0,i64 0] 51 false)).get (h5.nx+1)=some (.cells [i64 0,i64 0,i64 0,i64 0] 51 false):=Heap.get_add_same
 refine zy ?_
 refine Wc_draw hmix [0,1,0,7,15,0,32,0,224,480,0,0,3103,8191] [0,1,2,3,4,5,6,7,8,9,10,11] (some 12) [([],(some 13)),([],none)] (by kernel_rfl) (by kernel_rfl) ?_
 refine z_f ?_;refine z_l ?_;refine z_m ?_;refine Wp_pure rfl rfl rfl rfl rfl (fun _=>A_indexAddr (k:=i) Und.h Tsz.h rfl rfl rfl il) ?_;refine z_r ?_;refine z_f ?_;refine z_l ?_;refine z_m ?_;refine Wp_pure rfl rfl rfl rfl rfl (fun _=>A_indexAddr (k:=k) Und.h Tsz.h rfl rfl rfl kl) ?_;refine z_r ?_
 refine Wp_new (nk:=.ptr) rfl rfl rfl rfl rfl (fun _ _ _=>N_alloc Zr.h) ?_
 refine Wp_new (nk:=.ptr) rfl rfl rfl rfl rfl (fun _ _ _=>N_alloc Zr.h) ?_
 refine Wp_eff (h1:=(Heap.add (Heap.add h5 _) _)) [0,1,2,3,4,10,11] (by kernel_rfl) rfl (Stl_nil rfl) rfl rfl rfl (W1_wfK (W1_store rfl rfl Tsz.h rfl rfl ga rfl rfl rfl (fun h7 hU7 hW7=>?_)))
 have hE7:=hU7.ext hEb hw5 (Nat.le_refl _)
 have gb7:=hU7.get (show h5.nx+1≠h5.nx by omega) gb
 have k17:=hE7.get k1
 have hrk7:=hE7.row hrk
 refine Wp_eff (h1:=h7) [0,1,2,3,4,5,6,7,8,9,10,11,12] (by kernel_rfl) rfl (by refine t_r 9 ?_;refine Stl_pure (i:=8) rfl rfl rfl rfl rfl (fun _=>A_indexAddr (k:=k) Und.h Tsz.h rfl rfl rfl kl) rfl ?_;refine t_m 7 ?_;refine t_l 6 ?_;refine t_f 5 ?_;exact Stl_nil rfl) rfl rfl rfl (W1_wfK (W1_store rfl rfl Tsz.h rfl rfl gb7 rfl rfl rfl (fun h8 hU8 hW8=>?_)))
 have hE8:=hU8.ext hE7 hw5 (Nat.le_succ _)
 refine Wp_end (h1:=h8) (Stl_nil rfl) rfl ?_
 have gX:=hU8.get (show h5.nx≠h5.nx+1 by omega) hU7.at'
 have gY:=hU8.at'
 replace k1:=hE8.get k1
 replace hE5:=hE5.trans hE8
 clear k17 hrk7 gb7 ga gb hEb hEa hU7 hU8 hE7 hW7 hri hrk hE8
 clear h7
 generalize h5.nx=bX at *
 clear hw5
 obtain⟨-,⟨x3,x4⟩,x5,x6,x7⟩:=hxi
 obtain⟨-,⟨y3,y4⟩,y5,y6,y7⟩:=hxk
 obtain⟨bc,oc,oac,rfl,hci⟩:=hI i hi'
 obtain⟨bc',oc',oac',ec,hck⟩:=hI k hk'
 cases ec
 replace hci:=hE5.cell hci
 replace hck:=hE5.cell hck
 generalize hwi:W[i]=u at *
 generalize hwk:W[k]=z at *
 refine zy ?_
 by_cases d1:(i:Int)=(k:Int)
 ·refine Wo_do rfl rfl rfl rfl (A_tt d1 (A_eql rfl rfl)) ?_
  refine zy ?_
  exact⟨k+1,(by show W.length-(k+1)<W.length-k;omega),rfl,hE5,hk',rfl,rfl,rfl,rfl,trivial⟩
 refine Wo_do rfl rfl rfl rfl (A_ff d1 (A_eql rfl rfl)) ?_
 refine zy ?_
 refine Wo_do rfl rfl rfl rfl (A_ix Und.h Tsz.h rfl rfl) ?_
 refine zy ?_
 by_cases d2:u≠0
 ·refine Wo_do rfl rfl rfl rfl (A_tt d2 (A_neq rfl rfl)) ?_
  refine zy ?_
  exact⟨k+1,(by show W.length-(k+1)<W.length-k;omega),rfl,hE5,hk',rfl,rfl,rfl,rfl,trivial⟩
 refine Wo_do rfl rfl rfl rfl (A_ff d2 (A_neq rfl rfl)) ?_
 refine zy ?_
 refine Wo_do rfl rfl rfl rfl (A_ix Und.h Tsz.h rfl rfl) ?_
 refine zy ?_
 by_cases d3:z≠0
 ·refine Wo_do rfl rfl rfl rfl (A_tt d3 (A_neq rfl rfl)) ?_
  refine zy ?_
  exact⟨k+1,(by show W.length-(k+1)<W.length-k;omega),rfl,hE5,hk',rfl,rfl,rfl,rfl,trivial⟩
 refine Wo_do rfl rfl rfl rfl (A_ff d3 (A_neq rfl rfl)) ?_
 refine zy ?_
 by_cases d4:x.print≠y.print
 ·refine Wo_do rfl rfl rfl rfl (A_tt d4 (A_neq rfl rfl)) ?_
  refine zy ?_
  exact⟨k+1,(by show W.length-(k+1)<W.length-k;omega),rfl,hE5,hk',rfl,rfl,rfl,rfl,trivial⟩
 refine Wo_do rfl rfl rfl rfl (A_ff d4 (A_neq rfl rfl)) ?_
 refine zy ?_
 by_cases d5:y.days.lo<x.days.lo
 ·refine Wo_do rfl rfl rfl rfl (A_tt d5 (A_gtr rfl rfl)) ?_
  refine zy ?_
  exact⟨k+1,(by show W.length-(k+1)<W.length-k;omega),rfl,hE5,hk',rfl,rfl,rfl,rfl,trivial⟩
 refine Wo_do rfl rfl rfl rfl (A_ff d5 (A_gtr rfl rfl)) ?_
 obtain⟨law1,law2⟩:=hlaw (fun e=>d1 (by rw[e])) (Decidable.not_not.1 d2) (Decidable.not_not.1 d3) (Decidable.not_not.1 d4) (by omega)
 refine zy ?_
 refine Wo_do rfl rfl rfl rfl (A_ff (show ¬y.days.lo<=x.days.hi by omega) (A_geq rfl rfl)) ?_
 refine zy ?_
 generalize hZ:t.loans.zip W=Z at *
 have hZl:Z.length=W.length:=by rw[<-hZ,List.length_zip];omega
 have hZm:∀m (hm:m<W.length),Z[m]'(by omega)=(t.loans[m]'(by omega),W[m]):=fun m hm=>by subst hZ;exact List.getElem_zip
 refine Wc.mono (Q:=fun q m' ds' h'=>q=.exit 4/\ds'=[]/\Ext h8 h'/\AllK m' [(1,.pointer (some ⟨b1,0,none⟩)),(3,.slice (some ⟨bc,oc,oac⟩) W.length cW),(8,i64 i),(9,i64 k),(10,.pointer (some ⟨bX,0,none⟩)),(11,.pointer (some ⟨bX+1,0,none⟩)),(12,.bool (Z.any (btw x y)))]) (Wc_loop (fun (j:Nat) m ds h'=>ds=[]/\Ext h8 h'/\j<=W.length/\AllK m [(1,.pointer (some ⟨b1,0,none⟩)),(3,.slice (some ⟨bc,oc,oac⟩) W.length cW),(8,i64 i),(9,i64 k),(10,.pointer (some ⟨bX,0,none⟩)),(11,.pointer (some ⟨bX+1,0,none⟩)),(12,.bool ((Z.take j).any (btw x y))),(13,i64 j)]) (fun j=>W.length-j) 0 ?_ ?_) ?_
 ·exact⟨rfl,Ext.refl _,Nat.zero_le _,rfl,rfl,rfl,rfl,rfl,rfl,rfl,rfl,trivial⟩
 ·rintro j m ds h9 ⟨rfl,hE9,hj,hall⟩
  generalize hb:(Z.take j).any (btw x y)=bb at *
  refine Wc.le ?_ (Le.kn hall)
  refine zy ?_
  refine Wo_dec rfl rfl rfl rfl (A_lss rfl rfl) (fun h10=>?_) (fun h10=>?_)
  rotate_left
  ·have hj2:j=Z.length:=by omega
   subst hj2
   rw[List.take_length] at hb
   rw[hb]
   refine zy ?_
   exact⟨rfl,rfl,hE9,rfl,rfl,rfl,rfl,rfl,rfl,rfl,trivial⟩
  have hj':j<W.length:=by simpa using h10
  have jl:j<t.loans.length:=by omega
  have hnx:=any_take (f:=btw x y) (show j<Z.length by omega)
  rw[hZm j hj',hb] at hnx
  obtain⟨bl2,ol2,oal2,el2,rowj,hrj,hmj⟩:=m8 j jl
  cases el2
  obtain⟨bc2,oc2,oac2,ec2,hcj⟩:=hI j hj'
  cases ec2
  generalize t.loans[j]=q at *
  obtain rfl:=hmj
  replace hrj:=(hE5.trans hE9).row hrj
  replace hcj:=(hE5.trans hE9).cell hcj
  have n1:=hE9.get k1
  refine zy ?_
  refine Wo_do rfl rfl rfl rfl (A_ix Und.h Tsz.h rfl rfl) ?_
  refine zy ?_
  refine Wo_allocStore rfl rfl Zr.h Tsz.h rfl (fun _=>rfl) rfl rfl rfl fun h11 hE11 hW11 hg11 hn11=>?_
  have hE10:=hE9.trans hE11
  have n2:=hE10.get gX
  have n3:=hE10.get gY
  replace n1:=hE11.get n1
  replace hcj:=hE11.cell hcj
  clear hrj hn11 hE11
  generalize h9.nx=b9 at *
  generalize W[j]=r at *
  cases bb
  ·refine zy ?_
   refine Wo_do rfl rfl rfl rfl (A_ix Und.h Tsz.h rfl rfl) ?_
   refine zy ?_
   by_cases f1:r=0
   ·refine Wo_do rfl rfl rfl rfl (A_tt f1 (A_eql rfl rfl)) ?_
    refine zy ?_
    by_cases f2:q.print=x.print
    ·refine Wo_do rfl rfl rfl rfl (A_tt f2 (A_eql rfl rfl)) ?_
     refine zy ?_
     by_cases f3:x.days.lo<q.days.lo
     ·refine Wo_do rfl rfl rfl rfl (A_tt f3 (A_gtr rfl rfl)) ?_
      refine zy ?_
      refine Wo_do rfl rfl rfl rfl (A_lss rfl rfl) ?_
      refine zy ?_
      refine⟨j+1,(by show W.length-(j+1)<W.length-j;omega),rfl,hE10,hj',rfl,rfl,rfl,rfl,rfl,rfl,?_,rfl,trivial⟩
      rw[hnx,Bool.false_or,show btw x y (q,r)=decide (q.days.lo<y.days.lo) from decide_eq_decide.2 ⟨fun e=>e.2.2.2,fun e=>⟨f1,f2,f3,e⟩⟩];rfl
     ·refine Wo_do rfl rfl rfl rfl (A_ff f3 (A_gtr rfl rfl)) ?_
      refine zy ?_
      refine⟨j+1,(by show W.length-(j+1)<W.length-j;omega),rfl,hE10,hj',rfl,rfl,rfl,rfl,rfl,rfl,?_,rfl,trivial⟩
      rw[hnx,Bool.false_or,show btw x y (q,r)=false from decide_eq_false (fun e=>f3 e.2.2.1)];rfl
    ·refine Wo_do rfl rfl rfl rfl (A_ff f2 (A_eql rfl rfl)) ?_
     refine zy ?_
     refine⟨j+1,(by show W.length-(j+1)<W.length-j;omega),rfl,hE10,hj',rfl,rfl,rfl,rfl,rfl,rfl,?_,rfl,trivial⟩
     rw[hnx,Bool.false_or,show btw x y (q,r)=false from decide_eq_false (fun e=>f2 e.2.1)];rfl
   ·refine Wo_do rfl rfl rfl rfl (A_ff f1 (A_eql rfl rfl)) ?_
    refine zy ?_
    refine⟨j+1,(by show W.length-(j+1)<W.length-j;omega),rfl,hE10,hj',rfl,rfl,rfl,rfl,rfl,rfl,?_,rfl,trivial⟩
    rw[hnx,Bool.false_or,show btw x y (q,r)=false from decide_eq_false (fun e=>f1 e.1)];rfl
  ·refine zy ?_
   refine⟨j+1,(by show W.length-(j+1)<W.length-j;omega),rfl,hE10,hj',rfl,rfl,rfl,rfl,rfl,rfl,?_,rfl,trivial⟩
   rw[hnx,Bool.true_or];rfl
 rintro _ m' ds' h9 ⟨rfl,rfl,hE9,hall⟩
 show Wc _ _ _ _ _ _ _
 refine Wc.le ?_ (Le.kn hall)
 replace hE5:=hE5.trans hE9
 replace k1:=hE9.get k1
 replace gX:=hE9.get gX
 replace gY:=hE9.get gY
 obtain⟨vx1,vx2⟩:=venLand_ok hO x3 x4
 obtain⟨vy1,vy2⟩:=venLand_ok hO y3 y4
 have n3:=RowsAt.ext (R:=ScVR) (fun x _=>x) m3 hE5
 have n2:=RowsAt.ext (R:=ScTvR) (fun x y=>ScTvR.ext x y) m2 hE5
 obtain⟨bv,ov,oav,rfl,hvx⟩:=ven_at n3 x3 x4
 obtain⟨bv',ov',oav',ev,hvy⟩:=ven_at n3 y3 y4
 cases ev
 obtain⟨btr,otr,oatr,rfl,bt1,ot1,oat1,ct1,hct,hct',u1,u2,u3⟩:=trv_at hO n2 vx1 vx2 vy1 vy2
 generalize hvl:venLand t x.venue=vl at *
 generalize hvl':venLand t y.venue=vl' at *
 generalize htr:trv t vl vl'=n at *
 refine zy ?_
 refine Wc_draw hmix [0,1,0,4,0,16,60,124,252,511,1023,0,2048,0,8192,30720,63488,129024,262143,524287,1048575] [0,1,2,3,4,5,6,7,8,9,10,11,12,13,14,15,16,17,18,19] (some 20) [([],none)] (by kernel_rfl) (by kernel_rfl) ?_
 refine z_f ?_;refine z_l ?_;refine z_f ?_;refine z_l ?_;refine z_f ?_;refine z_l ?_;refine Wp_pure rfl rfl rfl rfl rfl (fun _=>A_indexAddr (k:=x.venue.toNat) Und.h Tsz.h rfl rfl (by omega) (by omega)) ?_;refine z_f ?_;refine z_l ?_;refine Wp_pure rfl rfl rfl rfl rfl (fun _=>A_indexAddr (k:=vl.toNat) Und.h Tsz.h rfl rfl (by omega) (by omega)) ?_;refine z_l ?_;refine z_f ?_;refine z_l ?_;refine z_f ?_;refine z_l ?_;refine Wp_pure rfl rfl rfl rfl rfl (fun _=>A_indexAddr (k:=y.venue.toNat) Und.h Tsz.h rfl rfl (by omega) (by omega)) ?_;refine z_f ?_;refine z_l ?_;refine Wp_pure rfl rfl rfl rfl rfl (fun _=>A_indexAddr (k:=vl'.toNat) Und.h Tsz.h rfl rfl (by omega) (by omega)) ?_;refine z_l ?_
 refine Wp_eff [0,1,2,3,4,5,6,7,8,9,10,11,12,13,14,15,16,17,18,19] (by kernel_rfl) rfl (Stl_nil rfl) rfl nb rfl (W1_op rfl rfl (A_assign rfl) ?_)
 refine Wp_end (Stl_nil rfl) nb' ?_
 generalize hbw:Z.any (btw x y)=bw at *
 cases bw
 ·obtain⟨g1,g2⟩:=law2 rfl
  refine zy ?_
  refine Wo_do rfl rfl rfl rfl (A_ff (show ¬n<0 by omega) (A_lss rfl rfl)) ?_
  refine zy ?_
  refine Wo_do rfl rfl rfl rfl (A_ff (show ¬y.days.lo-x.days.hi<=n by omega) (A_leq rfl rfl)) ?_
  refine zy ?_
  exact⟨k+1,(by show W.length-(k+1)<W.length-k;omega),rfl,hE5,hk',rfl,rfl,rfl,rfl,trivial⟩
 ·refine zy ?_
  exact⟨k+1,(by show W.length-(k+1)<W.length-k;omega),rfl,hE5,hk',rfl,rfl,rfl,rfl,trivial⟩
end Go.Dw
/- L4: ScreenTimes: its contract, for any task and show. -/
namespace Go.Dw
open Go Go.Dx Go.Proofs
set_option maxRecDepth 100000
theorem rows_row {α:Type}{f:α->List Value}{R:Heap->List Value->α->Prop}(hR:∀h row x,R h row x->row=f x){k:Nat}(hk:0<k)(hf:∀x,(f x).length=k){h:Heap}{b o:Nat}{oa:Option Nat}{l:List α}(hl:RowsAt k R h (some ⟨b,o,oa⟩) l)(h0:0<l.length):rowAt h b o (l.length*k)=some (l.flatMap f):=by
 have hlen:(l.flatMap f).length=l.length*k:=by
  clear hl h0
  induction l with
  | nil=>simp
  | cons x l ih=>rw[List.flatMap_cons,List.length_append,ih,hf,List.length_cons,Nat.succ_mul];omega
 rw[<-hlen]
 refine row_of_cells (by rw[hlen];exact Nat.mul_pos h0 hk) fun i hi=>?_
 rw[hlen] at hi
 have hq:i / k<l.length:=Nat.div_lt_of_lt_mul (by rw[Nat.mul_comm];exact hi)
 obtain⟨b',o',oa',e,row,hrow,hr⟩:=hl (i / k) hq
 cases e
 have hrr:=hR _ _ _ hr
 have hm:=Nat.mod_lt i hk
 have hdm:i / k*k+i % k=i:=by rw[Nat.mul_comm];exact Nat.div_add_mod i k
 have hcut:=cut_flat (f:=f) (k:=k) (P:=l) hq fun p _=>hf p
 have hin:i / k*k+k<=l.length*k:=by rw[<-Nat.succ_mul];exact Nat.mul_le_mul_right k hq
 rw[cut_le (by rw[hlen];exact hin)] at hcut
 have hv:nth (f l[i / k]) (i % k)=some (l.flatMap f)[i]:=by
  rw[nth_eq,<-Option.some.inj hcut,List.getElem?_take_of_lt hm,List.getElem?_drop,hdm,List.getElem?_eq_getElem]
 have hc:=cell_of_row (k:=i % k) (hrr ▸ hrow) hv
 rwa [Nat.add_assoc,hdm] at hc
theorem rows_src {P:Program} {α:Type}{f:α->List Value}{R:Heap->List Value->α->Prop}(hR:∀h row x,R h row x->row=f x){k:Nat}(hk:0<k)(hf:∀x,(f x).length=k){h:Heap}{a:Option Addr}{l:List α}{cap:Nat}{el tX:TypeId}{dd:TypeDesc}(hX:P.underlying tX=some dd)(hni:∀k,dd≠.int k)(hl:RowsAt k R h a l)(h0:0<l.length):asrc P el k tX (.slice a l.length cap) h=some (l.length,l.flatMap f):=by
 obtain⟨b,o,oa,rfl,-⟩:=hl 0 h0
 exact asrc_row hX hni (rows_row hR hk hf hl h0)
def venRow (v:ScV):List Value:=[str v.name,i64 v.land,i64 v.proj,i64 v.speeds.lo,i64 v.speeds.hi,i64 v.change,i64 v.spool,i64 v.turn,.bool v.digital]
theorem venRows_len (l:List ScV):(l.flatMap venRow).length=l.length*9:=by
 induction l with
 | nil=>rfl
 | cons x l ih=>rw[List.flatMap_cons,List.length_append,ih,List.length_cons];show 9+_=_;omega
theorem venRows_one:∀l:List ScV,allOne (l.flatMap venRow)=true
 | []=>rfl
 | v::l=>by
  rw[List.flatMap_cons]
  show allOne (str v.name::i64 v.land::i64 v.proj::i64 v.speeds.lo::i64 v.speeds.hi::i64 v.change::i64 v.spool::i64 v.turn::.bool v.digital::l.flatMap venRow)=true
  have:=venRows_one l
  simp only[allOne,List.all_cons] at this ⊢
  rw[this];rfl
theorem venRows_set:∀{l:List ScV}{k:Nat},k<l.length->(l.flatMap venRow).set (k*9+2) (i64 2)=(l.set k (twoV (l.getD k noV))).flatMap venRow
 | v::l,0,_=>by
  rw[List.set_cons_zero,List.flatMap_cons,List.flatMap_cons];rfl
 | v::l,k+1,h=>by
  have ih:=venRows_set (l:=l) (k:=k) (by simpa using h)
  rw[List.set_cons_succ,List.flatMap_cons,List.flatMap_cons,List.getD_cons_succ,<-ih,show (k+1)*9+2=(k*9+2)+9 by omega]
  rfl
theorem speed_shown {t:ScT}{s:ScS}(h:shownErr t s=0){v:Int}(h1:1<=v)(h2:v<=60):shownErr t ⟨s.venue,s.print,s.pack,s.minute,v,s.worth⟩=0:=by
 unfold shownErr at h
 split at h
 ·cases h
 rename_i c1
 split at h
 ·cases h
 rename_i c2
 split at h
 ·cases h
 rename_i c3
 split at h
 ·cases h
 rename_i c4
 unfold shownErr
 dsimp only
 rw[if_neg c1,if_neg c2,if_neg c3,if_neg (by omega)]
theorem longV_err {t:ScT}{s:ScS}(h:(longV t s).2≠0):(longV t s).1=0:=by
 unfold longV at h ⊢
 split
 ·split
  ·rename_i h1 h2
   rw[if_pos h1,if_pos h2] at h
   exact absurd rfl h
  ·rfl
 ·rfl
theorem longV_ok {t:ScT}{s:ScS}(h:¬(longV t s).2≠0):errSc t=0/\shownErr t s=0:=by
 replace h:(longV t s).2=0:=Decidable.not_not.1 h
 unfold longV at h
 split at h
 ·rename_i h1
  split at h
  ·rename_i h2
   exact⟨h1,h2⟩
  ·exact absurd h ‹_›
 ·exact absurd h ‹_›
theorem longV_eq {t:ScT}{s:ScS}(h1:errSc t=0)(h2:shownErr t s=0):longV t s=(longS t s,0):=by unfold longV;rw[if_pos h1,if_pos h2]
theorem twoT_fit {t:ScT}(hT:t.Fit)(k:Nat):(twoT t k).Fit:=by
 obtain⟨q1,q2,q3,q4,q5,q6,q7,q8,q9,q10,q11,q12,q13,q14,q15,q16,q17⟩:=hT
 refine⟨q1,q2,q3,q4,q5,?_,?_,q8,q9,q10,q11,q12,q13,q14,q15,q16,q17⟩
 ·show (t.venues.set k _).length<_
  rw[List.length_set];exact q6
 ·intro v hv
  rcases List.mem_or_eq_of_mem_set hv with g|rfl
  ·exact q7 v g
  ·have hf:((t.venues.getD k noV)).Fit:=by
    rw[List.getD_eq_getElem?_getD]
    by_cases hk:k<t.venues.length
    ·rw[List.getElem?_eq_getElem hk];exact q7 _ (List.getElem_mem hk)
    ·rw[List.getElem?_eq_none (by omega)]
     exact⟨by decide,by decide,by decide,by decide,by decide,by decide,by decide⟩
   obtain⟨p1,p2,p3,p4,p5,p6,p7⟩:=hf
   exact⟨p1,p2,(⟨by decide,by decide⟩:I64 2),p4,p5,p6,p7⟩
set_option maxHeartbeats 4000000 in
theorem screenTimes_sv {tc sr:List Value}{t:ScT}{s:ScS}{f:Int}{h:Heap}(ht:ScTAt h tc t)(hT:t.Fit)(hs:s.Fit)(hr:ScSR h sr s)(hf1:0<=f)(hf2:f<256)(hTb:TabAt spTab h):Sv Tryz.prog 6 [.agg ⟨tc⟩,.agg ⟨sr⟩,.int .u8 f] h (RetP fun v h'=>v=.bool true/\Ext h h'):=by
 have ht0:=ht
 obtain⟨al,cl,at',ct,a1,c1,a2,c2,a3,c3,a4,c4,a5,c5,a6,c6,rfl,m1,m2,m3,m4,m5,m6,m7,m8⟩:=ht
 obtain rfl:=hr
 refine Sv_wf fun hw=>?_
 refine Sv_enter Tryz.func6 rfl (by rw[Tryz.ntmps6];rfl) ?_;show Wc Tryz.prog ⟨6,149,none⟩ _ _ _ _ _
 refine zy ?_
 refine Wo_box rfl rfl rfl fun h1 hE1 hW1 hg1 hn1=>?_
 refine Wo_box rfl rfl rfl fun h2 hE2 hW2 hg2 hn2=>?_
 replace hg1:=hE2.get hg1
 have hE:=hE1.trans hE2
 generalize h.nx=b1 at *
 generalize h1.nx=b2 at *
 clear hE1 hE2 hW1 hn1 hn2
 refine zy ?_
 refine Wo_callE rfl rfl rfl rfl rfl Bod.h rfl rfl (scLong_sv (ht0.ext hE) hT hs rfl) fun h3 hE3=>?_
 replace hg1:=hE3.get hg1
 replace hg2:=hE3.get hg2
 replace hE:=hE.trans hE3
 clear hE3
 refine zy ?_
 refine Wo_callE rfl rfl rfl rfl rfl Bod.h rfl rfl (refScLong_sv (ht0.ext hE) hT hs rfl) fun h4 hE4=>?_
 replace hg1:=hE4.get hg1
 replace hg2:=hE4.get hg2
 replace hE:=hE.trans hE4
 clear hE4
 by_cases hbad:(longV t s).2≠0
 ·have h0:=longV_err hbad
  generalize (longV t s).1=n1 at *
  generalize (longV t s).2=n2 at *
  refine zy ?_
  refine Wo_do rfl rfl rfl rfl (A_tt hbad (A_neq rfl rfl)) ?_
  refine zy ?_
  refine Wo_dec rfl rfl rfl rfl (A_eql rfl rfl) (fun h5=>?_) (fun h5=>?_)
  rotate_left
  ·exact absurd rfl h5
  refine zy ?_
  refine Wo_do rfl rfl rfl rfl (A_tt h0 (A_eql rfl rfl)) ?_
  refine zy ?_
  refine Wo_callV rfl rfl rfl rfl rfl Bod.h rfl rfl (awake_sv (hTb.ext hE)) ?_
  refine zy ?_
  exact Wc_ret (Lv_ret rfl ⟨rfl,hE⟩)
 obtain⟨he,hs0⟩:=longV_ok hbad
 rw[longV_eq he hs0]
 clear hbad
 have hO:=sc_ok he
 have hlr:=long_rng hO hs0
 have q1:=hO.venues1
 have q2:=hO.prints1
 obtain⟨⟨v1,v2⟩,hpp,-,⟨sp1,sp2⟩,-⟩:=shown_ok hs0
 obtain⟨w1,w2,w3⟩:=long_two hO hs0
 have hwrap:IntKind.i64.wrap f=f:=IntWalk.i64_in _ (by omega)
 have hx1:s.speed<=min 60 (s.speed+f)/\min 60 (s.speed+f)<=60:=by omega
 have hle:=long_speed hO hs0 hx1.1
 have hx0:=speed_shown hs0 (by omega) hx1.2
 have hxe:=longV_eq he hx0
 have hxI:I64 (min 60 (s.speed+f)):=⟨by omega,by omega⟩
 have hxF:(⟨s.venue,s.print,s.pack,s.minute,min 60 (s.speed+f),s.worth⟩:ScS).Fit:=⟨hs.1,hs.2,hs.3,hs.4,hxI,hs.6⟩
 have hlongx:=fun {h':Heap} (hE:Ext h h')=>scLong_sv (ht0.ext hE) hT hxF (rfl:ScSR h' _ _)
 rw[hxe] at hlongx
 clear hxe hx0 hxF
 generalize hN:longS t s=N at *
 generalize longS t ⟨s.venue,s.print,s.pack,s.minute,min 60 (s.speed+f),s.worth⟩=M at *
 refine zy ?_
 refine Wo_do rfl rfl rfl rfl (A_ff (by exact fun e=>e rfl) (A_neq rfl rfl)) ?_
 refine zy ?_
 refine Wo_do rfl rfl rfl rfl (A_ff (by exact fun e=>e rfl) (A_neq rfl rfl)) ?_
 refine zy ?_
 refine Wo_wf fun hw4=>?_
 have hb5:h.nx<=h4.nx:=hE.2.1
 have ne1:b1≠h4.nx:=Nat.ne_of_lt (hw4 _ _ hg1)
 have ne2:b2≠h4.nx:=Nat.ne_of_lt (hw4 _ _ hg2)
 refine Wo_allocStore rfl rfl Zr.h Tsz.h rfl (fun _=>rfl) rfl rfl rfl fun h5 hE5 hW5 hg5 hn5=>?_
 replace hg1:=hE5.get hg1
 replace hg2:=hE5.get hg2
 replace hE:=hE.trans hE5
 clear hn5 hE5
 generalize h4.nx=b5 at *
 refine zy ?_
 refine Wo_do rfl rfl rfl rfl (A_convV ⟨_,Und.h⟩ Und.h rfl hwrap) ?_
 refine zy ?_
 refine Wo_do rfl rfl rfl rfl (A_min rfl rfl) ?_
 generalize min 60 (s.speed+f)=v at *
 refine zy ?_
 refine Wo_store rfl Tsz.h rfl rfl hg5 rfl rfl rfl fun h6 hU6=>?_
 replace hg1:=hU6.get ne1 hg1
 replace hg2:=hU6.get ne2 hg2
 replace hE:=hU6.ext hE hw hb5
 replace hg5:=hU6.at'
 clear hU6 hW5
 refine zy ?_
 refine Wo_callE rfl rfl rfl rfl rfl Bod.h rfl rfl (hlongx hE) fun h7 hE7=>?_
 replace hg1:=hE7.get hg1
 replace hg2:=hE7.get hg2
 replace hE:=hE.trans hE7
 clear hE7
 refine zy ?_
 refine Wo_do rfl rfl rfl rfl (A_ff (by exact fun e=>e rfl) (A_neq rfl rfl)) ?_
 refine zy ?_
 refine Wo_do rfl rfl rfl rfl (A_ff (by omega) (A_gtr rfl rfl)) ?_
 refine zy ?_
 refine Wo_do rfl rfl rfl rfl (A_ff (by omega) (A_lss rfl rfl)) ?_
 refine zy ?_
 refine Wo_wf fun hw7=>?_
 have hb8:h.nx<=h7.nx:=hE.2.1
 have ne3:b1≠h7.nx:=Nat.ne_of_lt (hw7 _ _ hg1)
 have ne4:b2≠h7.nx:=Nat.ne_of_lt (hw7 _ _ hg2)
 clear hg5 ne1 ne2
 refine Wo_allocStore rfl rfl Zr.h Tsz.h rfl (fun _=>rfl) rfl rfl rfl fun h8 hE8 hW8 hg8 hn8=>?_
 replace hg1:=hE8.get hg1
 replace hg2:=hE8.get hg2
 replace hE:=hE.trans hE8
 have hb9:h.nx<=h8.nx:=hE.2.1
 have hlt8:h7.nx<h8.nx:=by omega
 have lt1:=hW8 _ _ hg1
 have lt2:=hW8 _ _ hg2
 clear hn8 hE8
 generalize h7.nx=b8 at *
 have m3h:=m3
 replace m3:=RowsAt.ext (R:=ScVR) (fun x _=>x) m3 hE
 refine zy ?_
 refine Wo_bs rfl rfl Und.h Tsz.h Zr.h rfl rfl rfl rfl rfl fun h9 hE9 hW9 hg9 hn9=>?_
 have k1:=hE9.get hg1
 have hF9:FreshSl h8 h9 (.slice (some ⟨h8.nx,0,none⟩) 0 0) 54 9 [] 0:=FreshSl.lit hg9 rfl (Nat.le_refl _)
 generalize (Value.slice (some ⟨h8.nx,0,none⟩) 0 0)=v9 at *
 clear hg9 hn9
 refine zy ?_
 refine Wo_appendF (k:=t.venues.length) (l:=t.venues.flatMap venRow) hW8 hE9 rfl rfl rfl rfl rfl Und.h inferInstance rfl rfl hF9 (rows_src (f:=venRow) (R:=ScVR) (fun _ _ _ e=>e) (by decide) (fun _=>rfl) Und.h (by intro k;simp) (RowsAt.ext (R:=ScVR) (fun x _=>x) m3 hE9) (by omega)) (venRows_len _) (venRows_one _) (by omega) (by omega) fun va ha hFa hEa hk1 hk2 hk3=>?_
 clear hk1 hk2 hk3
 rw[List.nil_append,Nat.zero_add] at hFa
 obtain⟨bv,spv,opv,rfl,gV,-,hbv⟩:=hFa.blk (by omega)
 clear hFa hF9 k1 hE9 hW9
 clear h9
 replace hg1:=hEa.get hg1
 replace hg2:=hEa.get hg2
 replace hg8:=hEa.get hg8
 replace hE:=hE.trans hEa
 refine zy ?_
 refine Wo_store rfl Tsz.h rfl rfl hg8 rfl rfl rfl fun hb hUb=>?_
 replace hg1:=hUb.get ne3 hg1
 replace hg2:=hUb.get ne4 hg2
 replace gV:=hUb.get (show bv≠b8 by omega) gV
 replace hE:=hUb.ext hE hw hb8
 replace hg8:=hUb.at'
 clear hUb hEa hW8
 refine zy ?_
 refine Wo_do rfl rfl rfl rfl (A_indexAddr (k:=s.venue.toNat) Und.h Tsz.h rfl rfl (by omega) (by omega)) ?_
 refine zy ?_
 have hlay:lay (t.venues.flatMap venRow) (0+s.venue.toNat*9+2) [i64 2]=some ((t.venues.set s.venue.toNat (twoV (t.venues.getD s.venue.toNat noV))).flatMap venRow):=by
  rw[lay_one (by rw[venRows_len];omega),Nat.zero_add,venRows_set (by omega)]
 refine Wo_store rfl Tsz.h rfl rfl gV rfl rfl hlay fun hc hUc=>?_
 replace hg1:=hUc.get (show b1≠bv by omega) hg1
 replace hg2:=hUc.get (show b2≠bv by omega) hg2
 replace hg8:=hUc.get (show b8≠bv by omega) hg8
 replace hE:=hUc.ext hE hw (by omega)
 replace gV:=hUc.at'
 clear hUc
 have hset:(t.venues.set s.venue.toNat (twoV (t.venues.getD s.venue.toNat noV))).length=t.venues.length:=List.length_set
 have htw:ScTAt hc [i64 t.first,.slice al t.lands.length cl,.slice at' t.travel.length ct,.slice (some ⟨bv,0,spv⟩) t.venues.length t.venues.length,.slice a2 t.rights.length c2,.slice a3 t.prints.length c3,.slice a4 t.packs.length c4,.slice a5 t.keys.length c5,.slice a6 t.loans.length c6] (twoT t s.venue.toNat):=by
  refine⟨al,cl,at',ct,some ⟨bv,0,spv⟩,t.venues.length,a2,c2,a3,c3,a4,c4,a5,c5,a6,c6,?_,m1.ext hE,RowsAt.ext (R:=ScTvR) (fun x y=>ScTvR.ext x y) m2 hE,?_,RowsAt.ext (R:=ScRR) (fun x _=>x) m4 hE,RowsAt.ext (R:=ScPR) (fun x y=>ScPR.ext x y) m5 hE,RowsAt.ext (R:=ScPkR) (fun x _=>x) m6 hE,RowsAt.ext (R:=ScKR) (fun x _=>x) m7 hE,RowsAt.ext (R:=ScLR) (fun x _=>x) m8 hE⟩
  ·show _=[i64 t.first,.slice al t.lands.length cl,.slice at' t.travel.length ct,.slice (some ⟨bv,0,spv⟩) (t.venues.set s.venue.toNat (twoV (t.venues.getD s.venue.toNat noV))).length t.venues.length,.slice a2 t.rights.length c2,.slice a3 t.prints.length c3,.slice a4 t.packs.length c4,.slice a5 t.keys.length c5,.slice a6 t.loans.length c6]
   rw[hset]
  ·intro i hi
   refine⟨bv,0,spv,rfl,_,rowAt_cells gV ?_,rfl⟩
   rw[Nat.zero_add]
   exact cut_flat (f:=venRow) (k:=9) hi fun _ _=>rfl
 have hlongu:=scLong_sv htw (twoT_fit hT _) hs (rfl:ScSR hc _ s)
 rw[longV_eq (twoT_ok he) (twoT_shown.trans hs0)] at hlongu
 clear htw hset hlay
 generalize longS (twoT t s.venue.toNat) s=M2 at *
 refine zy ?_
 refine Wo_callE rfl rfl rfl rfl rfl Bod.h rfl rfl (hlongu) fun hd hEd=>?_
 replace hg1:=hEd.get hg1
 replace hg2:=hEd.get hg2
 replace hE:=hE.trans hEd
 clear hlongu hlongx hEd hg8 gV
 refine zy ?_
 refine Wo_do rfl rfl rfl rfl (A_ff (by exact fun e=>e rfl) (A_neq rfl rfl)) ?_
 refine zy ?_
 refine Wo_do rfl rfl rfl rfl (A_ff (by omega) (A_gtr rfl rfl)) ?_
 refine zy ?_
 by_cases hp:s.print<0
 ·refine Wo_do rfl rfl rfl rfl (A_tt hp (A_lss rfl rfl)) ?_
  refine zy ?_
  refine Wo_do rfl rfl rfl rfl (A_tt (w2 hp) (A_eql rfl rfl)) ?_
  refine zy ?_
  refine Wo_callV rfl rfl rfl rfl rfl Bod.h rfl rfl (awake_sv (hTb.ext hE)) ?_
  refine zy ?_
  exact Wc_ret (Lv_ret rfl ⟨rfl,hE⟩)
 refine Wo_do rfl rfl rfl rfl (A_ff hp (A_lss rfl rfl)) ?_
 refine zy ?_
 have hprint:0<=s.print/\s.print<t.prints.length:=by omega
 obtain⟨w4,w5⟩:=w3 hprint.1
 obtain⟨bp,op,oap,rfl,ap,cp,hrp,-⟩:=pr_row (RowsAt.ext (R:=ScPR) (fun x y=>ScPR.ext x y) m5 hE) (s:=s) hprint.1 hprint.2
 obtain⟨bn,on,oan,rfl,hrv⟩:=ven_row (RowsAt.ext (R:=ScVR) (fun x _=>x) (show RowsAt 9 ScVR h a1 t.venues from m3h) hE) (s:=s) v1 v2
 have z1:cellAt hd bp (op+s.print.toNat*7+3)=some (.slice ap (prAt t s).reels.length cp):=cell_of_row hrp rfl
 have z2:cellAt hd bn (on+s.venue.toNat*9+2)=some (i64 (venAt t s).proj):=cell_of_row hrv rfl
 have z3:cellAt hd bn (on+s.venue.toNat*9+5)=some (i64 (venAt t s).change):=cell_of_row hrv rfl
 clear hrp hrv
 generalize (prAt t s).reels.length=R at *
 generalize (venAt t s).proj=pj at *
 generalize hmul:(venAt t s).change*((R:Int)-1)=C at *
 generalize (venAt t s).change=ch at *
 by_cases hpj:pj=2
 ·refine Wc_draw hmix [0,1,0,4,0,16,60,124,252,508,1023,2047,4095,8191,4095,20479,65535,131071,262143,524287,1048575,2097151,2097151,8388607,2097151,18874367,2097151,69206015,253755391,522190847,1059061759,2097151,2149580799,2097151,8592031743,32214351871,66574090239,135293566975,272732520447,547610427391,1099496947711,2199023255551,4398046511103,8796093022207,17592186044415,35184372088831,70368744177663,140737488355327] [0,1,2,3,4,5,6,7,8,9,10,11,12,13,14,15,16,17,18,19,20,21,22,23,24,25,26,27,28,29,30,31,32,33,34,35,36,37,38,39,40,41,42,43,44] (some 45) [([46],(some 47)),([],none)] (by kernel_rfl) (by kernel_rfl) ?_
  refine z_m ?_;refine Wp_pure rfl rfl rfl rfl rfl (fun _=>A_mul rfl rfl (by omega) (by omega)) ?_;refine z_f ?_;refine z_l ?_;refine z_f ?_;refine z_l ?_;refine Wp_pure rfl rfl rfl rfl rfl (fun _=>A_indexAddr (k:=s.print.toNat) Und.h Tsz.h rfl rfl (by omega) (by omega)) ?_;refine z_f ?_;refine z_l ?_;refine z_c ?_;refine Wp_pure rfl rfl rfl rfl rfl (fun _=>A_tt w4 (A_geq rfl rfl)) ?_;refine z_m ?_;refine g_f ?_;refine g_l ?_;refine g_f ?_;refine g_l ?_
  first|refine Wp_off rfl rfl rfl rfl ?_|refine Wp_pure rfl rfl rfl rfl rfl (fun _=>A_indexAddr (k:=s.venue.toNat) Und.h Tsz.h rfl rfl (by omega) (by omega)) ?_
  refine g_f ?_;refine g_l ?_
  first|refine Wp_off rfl rfl rfl rfl ?_|refine Wp_pure rfl rfl rfl rfl rfl (fun _=>A_tt hpj (A_eql rfl rfl)) ?_
  refine g_m ?_;refine g_m ?_;refine g_m ?_;refine g_u ?_;refine g_f ?_;refine g_l ?_;refine g_f ?_;refine g_l ?_;refine z_o ?_;refine g_f ?_;refine g_l ?_;refine g_f ?_;refine g_l ?_;refine g_f ?_;refine g_l ?_;refine z_o ?_;refine g_f ?_;refine g_l ?_;refine g_c ?_;refine g_u ?_;refine z_o ?_;refine z_o ?_;refine g_p ?_;refine z_p ?_;refine z_m ?_
  refine Wp_eff [0,1,2,3,4,5,6,7,8,9,10,11,12,13,14,15,16,17,18,19,20,21,22,23,24,25,26,27,28,29,30,31,32,33,34,35,36,37,38,39,40,41,42,43,44] (by kernel_rfl) rfl (Stl_nil rfl) rfl nb rfl (W1_callV rfl rfl rfl rfl rfl Bod.h (awake_sv (hTb.ext hE)) ?_)
  refine z_p ?_
  refine Wp_eff [0,1,2,3,4,5,6,7,8,9,10,11,12,13,14,15,16,17,18,19,20,21,22,23,24,25,26,27,28,29,30,31,32,33,34,35,36,37,38,39,40,41,42,43,44,45,46] (by kernel_rfl) rfl (Stl_nil rfl) rfl nb rfl (W1_op rfl rfl (A_assign rfl) ?_)
  refine Wp_end (Stl_nil rfl) nb' ?_
  refine zy ?_
  exact Wc_ret (Lv_ret rfl ⟨rfl,hE⟩)
 ·have hc5:N-M2=C:=by omega
  refine Wc_draw hmix [0,1,0,4,0,16,60,124,252,508,1023,2047,4095,8191,4095,20479,65535,131071,262143,524287,1048575,2097151,2097151,8388607,2097151,18874367,2097151,69206015,253755391,522190847,1059061759,2097151,2149580799,2097151,8592031743,32214351871,66574090239,135293566975,272732520447,547610427391,1099496947711,2199023255551,4398046511103,8796093022207,17592186044415,35184372088831,70368744177663,140737488355327] [0,1,2,3,4,5,6,7,8,9,10,11,12,13,14,15,16,17,18,19,20,21,22,23,24,25,26,27,28,29,30,31,32,33,34,35,36,37,38,39,40,41,42,43,44] (some 45) [([46],(some 47)),([],none)] (by kernel_rfl) (by kernel_rfl) ?_
  refine z_m ?_;refine Wp_pure rfl rfl rfl rfl rfl (fun _=>A_mul rfl rfl (by omega) (by omega)) ?_;refine z_f ?_;refine z_l ?_;refine z_f ?_;refine z_l ?_;refine Wp_pure rfl rfl rfl rfl rfl (fun _=>A_indexAddr (k:=s.print.toNat) Und.h Tsz.h rfl rfl (by omega) (by omega)) ?_;refine z_f ?_;refine z_l ?_;refine z_c ?_;refine Wp_pure rfl rfl rfl rfl rfl (fun _=>A_tt w4 (A_geq rfl rfl)) ?_;refine z_m ?_;refine g_f ?_;refine g_l ?_;refine g_f ?_;refine g_l ?_
  first|refine Wp_off rfl rfl rfl rfl ?_|refine Wp_pure rfl rfl rfl rfl rfl (fun _=>A_indexAddr (k:=s.venue.toNat) Und.h Tsz.h rfl rfl (by omega) (by omega)) ?_
  refine g_f ?_;refine g_l ?_
  first|refine Wp_off rfl rfl rfl rfl ?_|refine Wp_pure rfl rfl rfl rfl rfl (fun _=>A_ff hpj (A_eql rfl rfl)) ?_
  refine g_m ?_;refine g_m ?_;refine g_m ?_;refine g_u ?_;refine g_f ?_;refine g_l ?_;refine g_f ?_;refine g_l ?_
  first|refine Wp_off rfl rfl rfl rfl ?_|refine Wp_pure rfl rfl rfl rfl rfl (fun _=>A_indexAddr (k:=s.venue.toNat) Und.h Tsz.h rfl rfl (by omega) (by omega)) ?_
  refine g_f ?_;refine g_l ?_;refine g_f ?_;refine g_l ?_;refine g_f ?_;refine g_l ?_
  first|refine Wp_off rfl rfl rfl rfl ?_|refine Wp_pure rfl rfl rfl rfl rfl (fun _=>A_indexAddr (k:=s.print.toNat) Und.h Tsz.h rfl rfl (by omega) (by omega)) ?_
  refine g_f ?_;refine g_l ?_;refine g_c ?_;refine g_u ?_
  first|refine Wp_off rfl rfl rfl rfl ?_|refine Wp_pure rfl rfl rfl rfl rfl (fun _=>A_mulV rfl rfl hmul (by omega) (by omega)) ?_
  first|refine Wp_off rfl rfl rfl rfl ?_|refine Wp_pure rfl rfl rfl rfl rfl (fun _=>A_tt hc5 (A_eql rfl rfl)) ?_
  refine g_p ?_;refine z_p ?_;refine z_m ?_
  refine Wp_eff [0,1,2,3,4,5,6,7,8,9,10,11,12,13,14,15,16,17,18,19,20,21,22,23,24,25,26,27,28,29,30,31,32,33,34,35,36,37,38,39,40,41,42,43,44] (by kernel_rfl) rfl (Stl_nil rfl) rfl nb rfl (W1_callV rfl rfl rfl rfl rfl Bod.h (awake_sv (hTb.ext hE)) ?_)
  refine z_p ?_
  refine Wp_eff [0,1,2,3,4,5,6,7,8,9,10,11,12,13,14,15,16,17,18,19,20,21,22,23,24,25,26,27,28,29,30,31,32,33,34,35,36,37,38,39,40,41,42,43,44,45,46] (by kernel_rfl) rfl (Stl_nil rfl) rfl nb rfl (W1_op rfl rfl (A_assign rfl) ?_)
  refine Wp_end (Stl_nil rfl) nb' ?_
  refine zy ?_
  exact Wc_ret (Lv_ret rfl ⟨rfl,hE⟩)
end Go.Dw
/- L6: ScreenPlays: its contract, for any task and shows. -/
namespace Go.Dw
open Go Go.Dx Go.Proofs
set_option maxRecDepth 100000
theorem screenPlays_sv {tc:List Value}{t:ScT}{l:List ScS}{al:Option Addr}{cl:Nat}{h:Heap}(ht:ScTAt h tc t)(hT:t.Fit)(hl:RowsAt 6 ScSR h al l)(hlF:∀s∈l,s.Fit)(hL:Len l)(hTb:TabAt spTab h):Sv Tryz.prog 10 [.agg ⟨tc⟩,.slice al l.length cl] h (RetP fun v h'=>v=.bool true/\Ext h h'):=by
 have ht0:=ht
 obtain⟨xl,cxl,at',ct,a1,c1',a2,c2',a3,c3',a4,c4',a5,c5',a6,c6',rfl,-⟩:=ht
 refine Sv_wf fun hw=>?_
 refine Sv_enter Tryz.func10 rfl (by rw[Tryz.ntmps10];rfl) ?_;show Wc Tryz.prog ⟨10,41,none⟩ _ _ _ _ _
 refine zy ?_
 refine Wo_box rfl rfl rfl fun h1 hE hW1 hg1 hn1=>?_
 generalize h.nx=b1 at *
 clear hW1 hn1
 refine zy ?_
 refine Wo_callr rfl rfl rfl rfl rfl Bod.h rfl rfl (scPlay_sv (ht0.ext hE) hT (RowsAt.ext (R:=ScSR) (fun x _=>x) hl hE) hlF hL) ?_
 rintro v h2 ⟨hE2,hv⟩
 replace hg1:=hE2.get hg1
 replace hE:=hE.trans hE2
 rcases hv with ⟨he,rfl⟩|⟨he,va,vb,rfl,hA,hB⟩
 ·refine zy ?_
  refine Wo_callr rfl rfl rfl rfl rfl Bod.h rfl rfl (refPlay_sv (ht0.ext hE) hT (RowsAt.ext (R:=ScSR) (fun x _=>x) hl hE) hlF hL) ?_
  rintro v h3 ⟨hE3,⟨he',rfl⟩|⟨he',_⟩⟩
  rotate_left
  ·exact absurd he' he
  replace hE:=hE.trans hE3
  refine zy ?_
  refine Wo_callV rfl rfl rfl rfl rfl Bod.h rfl rfl (refShows_sv (l:=[]) (l':=[]) (fun _ hi=>absurd hi (Nat.not_lt_zero _)) (fun _ hi=>absurd hi (Nat.not_lt_zero _)) (by decide) (by decide)) ?_
  rw[decide_eq_true rfl]
  refine zy ?_
  refine Wo_callV rfl rfl rfl rfl rfl Bod.h rfl rfl (refErrors_sv (l:=[]) (l':=[]) (fun _ hi=>absurd hi (Nat.not_lt_zero _)) (fun _ hi=>absurd hi (Nat.not_lt_zero _)) (by decide) (by decide)) ?_
  rw[decide_eq_true rfl]
  refine zy ?_
  refine Wo_dec rfl rfl rfl rfl (A_eql rfl rfl) (fun h9=>?_) (fun h9=>?_)
  rotate_left
  ·exact absurd rfl h9
  refine zy ?_
  refine Wo_callV rfl rfl rfl rfl rfl Bod.h rfl rfl (awake_sv (hTb.ext hE)) ?_
  refine zy ?_
  exact Wc_ret (Lv_ret rfl ⟨rfl,hE⟩)
 have he1:errSc t=0:=Classical.byContradiction fun e=>e (by rw[<-listed_bad (l:=l) e];exact he)
 obtain⟨hl40,-⟩:=allErr_ok (by rw[<-listed_ok he1];exact he)
 have hKn:(playS t l).1.length<=40:=Nat.le_trans (play_len t l).2.1 hl40
 have hWn:(playS t l).2.length<=40:=by rw[(play_len t l).1];exact hl40
 obtain⟨aA,cA,rfl,hAr⟩:=shRows_at hA
 obtain⟨aB,rfl,-,hBr⟩:=FreshSl.list (enc:=i64) hB
 clear hA hB
 refine zy ?_
 refine Wo_callr rfl rfl rfl rfl rfl Bod.h rfl rfl (refPlay_sv (ht0.ext hE) hT (RowsAt.ext (R:=ScSR) (fun x _=>x) hl hE) hlF hL) ?_
 rintro v h3 ⟨hE3,⟨he',_⟩|⟨_,vc,vd,rfl,hC,hD⟩⟩
 ·exact absurd he he'
 obtain⟨aC,cC,rfl,hCr⟩:=shRows_at hC
 obtain⟨aD,rfl,-,hDr⟩:=FreshSl.list (enc:=i64) hD
 replace hAr:=RowsAt.ext (R:=ScSR) (fun x _=>x) hAr hE3
 replace hBr:=hBr.ext hE3
 replace hE:=hE.trans hE3
 clear hC hD
 generalize (playS t l).1=K at *
 generalize (playS t l).2=W at *
 refine zy ?_
 refine Wo_callV rfl rfl rfl rfl rfl Bod.h rfl rfl (refShows_sv hAr hCr (by omega) (by omega)) ?_
 rw[decide_eq_true rfl]
 refine zy ?_
 refine Wo_callV rfl rfl rfl rfl rfl Bod.h rfl rfl (refErrors_sv hBr hDr (by omega) (by omega)) ?_
 rw[decide_eq_true rfl]
 refine zy ?_
 refine Wo_dec rfl rfl rfl rfl (A_eql rfl rfl) (fun h9=>?_) (fun h9=>?_)
 rotate_left
 ·exact absurd rfl h9
 refine zy ?_
 refine Wo_callV rfl rfl rfl rfl rfl Bod.h rfl rfl (awake_sv (hTb.ext hE)) ?_
 refine zy ?_
 exact Wc_ret (Lv_ret rfl ⟨rfl,hE⟩)
end Go.Dw
/- L7: ScreenRights: its contract, for any task and shows. -/
namespace Go.Dw
open Go Go.Dx Go.Proofs
set_option maxRecDepth 100000
def rDay (Wk Vk:List UInt8)(L day:Int)(r:ScR):Bool:=decide (r.work=Wk/\(r.version=[]\/r.version=Vk)/\r.land=L/\r.days.lo<=day/\day<=r.days.hi)
def lDay (p v day:Int)(x:ScL×Int):Bool:=decide (x.2=0/\x.1.print=p/\x.1.venue=v/\x.1.days.lo<=day/\day<=x.1.days.hi)
def kOpen (p v a b:Int)(k:ScK):Bool:=decide (k.pack=p/\k.venue=v/\k.window.lo<=a/\b<=k.window.hi)
theorem rDay_any {t:ScT}{s:ScS}(h:whyS t s=0){day:Int}(h1:(daysS t s).lo<=day)(h2:day<=(daysS t s).hi):t.rights.any (rDay (workS t s) (versS t s) (venAt t s).land day)=true:=by
 obtain⟨r,hr,e⟩:=right_day (why_zero h).1 h1 h2
 exact List.any_eq_true.2 ⟨r,hr,decide_eq_true e⟩
theorem lDay_any {t:ScT}{s:ScS}(h:whyS t s=0)(hp:0<=s.print)(hl:(loansS t).2.length=t.loans.length){day:Int}(h1:(daysS t s).lo<=day)(h2:day<=(daysS t s).hi):(t.loans.zip (loansS t).2).any (lDay s.print s.venue day)=true:=by
 obtain⟨k,hk,e0,e1,e2,e3,e4⟩:=here_day ((why_zero h).2.1 hp) h1 h2
 rw[List.getD_eq_getElem?_getD,List.getElem?_eq_getElem (by omega)] at e0
 have hz:(t.loans.zip (loansS t).2)[k]'(by rw[List.length_zip];omega)=(t.loans[k],(loansS t).2[k]'(by omega)):=List.getElem_zip
 refine List.any_eq_true.2 ⟨_,List.getElem_mem (show k<(t.loans.zip (loansS t).2).length by rw[List.length_zip];omega),?_⟩
 rw[hz]
 exact decide_eq_true ⟨e0,e1,e2,e3,e4⟩
theorem kOpen_any {t:ScT}{s:ScS}(h:whyS t s=0)(hp:s.print<0):t.keys.any (kOpen s.pack s.venue s.minute (endS t s))=true:=by
 obtain⟨k,hk,e⟩:=key_open ((why_zero h).2.2 hp).2
 exact List.any_eq_true.2 ⟨k,hk,decide_eq_true e⟩
set_option maxHeartbeats 8000000 in
theorem screenRights_sv {tc:List Value}{t:ScT}{l:List ScS}{al:Option Addr}{cl:Nat}{h:Heap}(ht:ScTAt h tc t)(hT:t.Fit)(hl:RowsAt 6 ScSR h al l)(hlF:∀s∈l,s.Fit)(hL:Len l)(hTb:TabAt spTab h):Sv Tryz.prog 11 [.agg ⟨tc⟩,.slice al l.length cl] h (RetP fun v h'=>v=.bool true/\Ext h h'):=by
 have ht0:=ht
 obtain⟨xl,cxl,at',ct,a1,c1',a2,c2',a3,c3',a4,c4',a5,c5',a6,c6',rfl,m1,m2,m3,m4,m5,m6,m7,m8⟩:=ht
 refine Sv_wf fun hw=>?_
 refine Sv_enter Tryz.func11 rfl (by rw[Tryz.ntmps11];rfl) ?_;show Wc Tryz.prog ⟨11,315,none⟩ _ _ _ _ _
 refine zy ?_
 refine Wo_box rfl rfl rfl fun h1 hE hW1 hg1 hn1=>?_
 generalize h.nx=b1 at *
 clear hW1 hn1
 refine zy ?_
 refine Wo_callr rfl rfl rfl rfl rfl Bod.h rfl rfl (scPlay_sv (ht0.ext hE) hT (RowsAt.ext (R:=ScSR) (fun x _=>x) hl hE) hlF hL) ?_
 rintro v h2 ⟨hE2,hv⟩
 replace hg1:=hE2.get hg1
 replace hE:=hE.trans hE2
 rcases hv with ⟨he,rfl⟩|⟨he,va,vb,rfl,hA,hB⟩
 ·generalize hn:listedS t l=n at *
  refine zy ?_
  refine Wo_callr rfl rfl rfl rfl rfl Bod.h rfl rfl (scLoans_sv (ht0.ext hE) hT) ?_
  rintro v h3 ⟨hE3,hv⟩
  replace hg1:=hE3.get hg1
  replace hE:=hE.trans hE3
  rcases hv with ⟨_,rfl⟩|⟨_,aW,cW,rfl,hI⟩
  ·refine zy ?_
   refine Wo_callE rfl rfl rfl rfl rfl Bod.h rfl rfl (refScCheck_sv (ht0.ext hE) hT) fun h4 hE4=>?_
   replace hE:=hE.trans hE4
   refine zy ?_
   refine Wo_do rfl rfl rfl rfl (A_tt he (A_neq rfl rfl)) ?_
   refine zy ?_
   refine Wo_do rfl rfl rfl rfl (A_tt rfl (A_eql rfl rfl)) ?_
   refine zy ?_
   refine Wo_callV rfl rfl rfl rfl rfl Bod.h rfl rfl (awake_sv (hTb.ext hE)) ?_
   refine zy ?_
   exact Wc_ret (Lv_ret rfl ⟨rfl,hE⟩)
  ·refine zy ?_
   refine Wo_callE rfl rfl rfl rfl rfl Bod.h rfl rfl (refScCheck_sv (ht0.ext hE) hT) fun h4 hE4=>?_
   replace hE:=hE.trans hE4
   refine zy ?_
   refine Wo_do rfl rfl rfl rfl (A_tt he (A_neq rfl rfl)) ?_
   refine zy ?_
   refine Wo_do rfl rfl rfl rfl (A_tt rfl (A_eql rfl rfl)) ?_
   refine zy ?_
   refine Wo_callV rfl rfl rfl rfl rfl Bod.h rfl rfl (awake_sv (hTb.ext hE)) ?_
   refine zy ?_
   exact Wc_ret (Lv_ret rfl ⟨rfl,hE⟩)
 have he1:errSc t=0:=Classical.byContradiction fun e=>e (by rw[<-listed_bad (l:=l) e];exact he)
 have hO:=sc_ok he1
 obtain⟨hl40,hsh⟩:=allErr_ok (by rw[<-listed_ok he1];exact he)
 obtain⟨aK,cK,rfl,hK⟩:=shRows_at hA
 have hwhy:=(play_kept t l).1
 have hKl:=fun s hs=>((play_len t l).2.2 s hs).1
 have hKn:(playS t l).1.length<=40:=Nat.le_trans (play_len t l).2.1 hl40
 clear hA hB
 generalize (playS t l).1=K at *
 refine zy ?_
 refine Wo_callr rfl rfl rfl rfl rfl Bod.h rfl rfl (scLoans_sv (ht0.ext hE) hT) ?_
 rintro v h3 ⟨hE3,hv⟩
 replace hg1:=hE3.get hg1
 replace hE:=hE.trans hE3
 replace hK:=RowsAt.ext (R:=ScSR) (fun x _=>x) hK hE3
 rcases hv with ⟨he',_⟩|⟨_,aW,cW,rfl,hI⟩
 ·exact absurd he1 he'
 have hll:=loansS_len hO
 have q0:=hO.first
 have q1:=hO.loans1
 have q2:=hO.venues1
 have q3:=hO.rights1
 have q4:=hO.keys1
 have q5:=hO.prints1
 have q6:=hO.packs1
 have hlDay:=fun {s:ScS} (hw:whyS t s=0) (hp:0<=s.print) {day:Int}=>lDay_any (t:=t) (s:=s) hw hp hll (day:=day)
 generalize (loansS t).2=W at *
 refine zy ?_
 refine Wo_callE rfl rfl rfl rfl rfl Bod.h rfl rfl (refScCheck_sv (ht0.ext hE) hT) fun h4 hE4=>?_
 replace hE:=hE.trans hE4
 replace hg1:=hE4.get hg1
 replace hI:=hI.ext hE4
 replace hK:=RowsAt.ext (R:=ScSR) (fun x _=>x) hK hE4
 refine zy ?_
 refine Wo_do rfl rfl rfl rfl (A_ff (by exact fun e=>e rfl) (A_neq rfl rfl)) ?_
 refine zy ?_
 refine Wo_do rfl rfl rfl rfl (A_ff (by exact fun e=>e rfl) (A_neq rfl rfl)) ?_
 refine zy ?_
 refine Wo_do rfl rfl rfl rfl (A_ff (show ¬(checkSc t).2.2≠0 from fun e=>e he1) (A_neq rfl rfl)) ?_
 refine zy ?_
 refine Wo_do rfl rfl rfl rfl (A_ff (show ¬(W.length:Int)≠(t.loans.length:Int) from fun e=>e (by rw[hll])) (A_neq rfl rfl)) ?_
 refine zy ?_
 clear hE2 hE3 hE4
 replace m3:=RowsAt.ext (R:=ScVR) (fun x _=>x) m3 hE
 replace m4:=RowsAt.ext (R:=ScRR) (fun x _=>x) m4 hE
 replace m5:=RowsAt.ext (R:=ScPR) (fun x y=>ScPR.ext x y) m5 hE
 replace m6:=RowsAt.ext (R:=ScPkR) (fun x _=>x) m6 hE
 replace m7:=RowsAt.ext (R:=ScKR) (fun x _=>x) m7 hE
 replace m8:=RowsAt.ext (R:=ScLR) (fun x _=>x) m8 hE
 clear m1 m2
 refine Wc_loop (fun (i:Nat) m ds h'=>ds=[]/\Ext h4 h'/\i<=K.length/\AllK m [(2,.pointer (some ⟨b1,0,none⟩)),(5,.slice aK K.length cK),(8,.slice aW W.length cW),(13,i64 i)]) (fun i=>K.length-i) 0 ?_ ?_
 ·exact⟨rfl,Ext.refl _,Nat.zero_le _,rfl,rfl,rfl,rfl,trivial⟩
 rintro i m ds h5 ⟨rfl,hE5,hi,hall⟩
 refine Wc_wf fun hw5=>?_
 refine Wc.le ?_ (Le.kn hall)
 refine zy ?_
 refine Wo_dec rfl rfl rfl rfl (A_lss rfl rfl) (fun h6=>?_) (fun h6=>?_)
 rotate_left
 ·refine zy ?_
  refine Wo_callV rfl rfl rfl rfl rfl Bod.h rfl rfl (awake_sv (hTb.ext (hE.trans hE5))) ?_
  refine zy ?_
  exact Wc_ret (Lv_ret rfl ⟨rfl,hE.trans hE5⟩)
 have hi':i<K.length:=by simpa using h6
 obtain⟨bk,ok,oak,rfl,row,hrow,hr⟩:=hK i hi'
 have hsm:=List.getElem_mem hi'
 have hs0:=hsh _ (hKl _ hsm)
 have hsF:=hlF _ (hKl _ hsm)
 have hsw:=hwhy _ hsm
 generalize K[i]=s at *
 obtain rfl:=hr
 replace hrow:=hE5.row hrow
 refine zy ?_
 refine Wo_do rfl rfl rfl rfl (A_ix Und.h Tsz.h rfl rfl) ?_
 refine zy ?_
 refine Wo_allocStore rfl rfl Zr.h Tsz.h rfl (fun _=>rfl) rfl rfl rfl fun h7 hE7 hW7 hg7 hn7=>?_
 replace hE5:=hE5.trans hE7
 generalize h5.nx=b14 at *
 clear hrow hn7 hE7 hw5
 clear h5
 have hlo:=refScLong_sv (ht0.ext (hE.trans hE5)) hT hsF (rfl:ScSR h7 _ s)
 rw[longV_eq he1 hs0] at hlo
 have hlr:=long_rng hO hs0
 obtain⟨⟨v1,v2⟩,hpp,⟨mi1,mi2⟩,-⟩:=shown_ok hs0
 have hrd:∀{day:Int},t.first+s.minute / 1440<=day->day<=t.first+(s.minute+longS t s-1) / 1440->_:=fun {day} h1 h2=>rDay_any hsw (day:=day) h1 h2
 have hld:0<=s.print->∀{day:Int},t.first+s.minute / 1440<=day->day<=t.first+(s.minute+longS t s-1) / 1440->_:=fun hp {day} h1 h2=>hlDay hsw hp (day:=day) h1 h2
 have hko:=kOpen_any hsw
 have hdg:=fun hp=>((why_zero hsw).2.2 hp).1
 have hEnd:endS t s=s.minute+longS t s:=rfl
 rw[hEnd] at hko
 have hwk:workS t s=if 0<=s.print then (prAt t s).work else (pkAt t s).work:=rfl
 have hvk:versS t s=if 0<=s.print then (prAt t s).version else (pkAt t s).version:=rfl
 obtain⟨bn,on,oan,rfl,hrv⟩:=ven_row m3 (s:=s) v1 v2
 have y1:cellAt h4 bn (on+s.venue.toNat*9+1)=some (i64 (venAt t s).land):=cell_of_row hrv rfl
 have y2:cellAt h4 bn (on+s.venue.toNat*9+8)=some (.bool (venAt t s).digital):=cell_of_row hrv rfl
 clear hrv
 generalize (venAt t s).land=L at *
 generalize (venAt t s).digital=dig at *
 generalize longS t s=N at *
 generalize workS t s=Wk at *
 generalize versS t s=Vk at *
 have g1:=hE5.get hg1
 refine zy ?_
 refine Wo_callE rfl rfl rfl rfl rfl Bod.h rfl rfl (hlo) fun h8 hE8=>?_
 replace hE5:=hE5.trans hE8
 replace hg7:=hE8.get hg7
 replace g1:=hE8.get g1
 clear hlo hE8 hW7
 clear h7
 refine zy ?_
 refine Wo_do rfl rfl rfl rfl (A_ff (by exact fun e=>e rfl) (A_neq rfl rfl)) ?_
 refine zy ?_
 refine Wo_do rfl rfl rfl rfl (A_geq rfl rfl) ?_
 refine zy ?_
 refine Wc.mono (Q:=fun x m' ds' h'=>x=.normal/\ds'=[]/\h8=h'/\AllK m' [(2,.pointer (some ⟨b1,0,none⟩)),(5,.slice (some ⟨bk,ok,oak⟩) K.length cK),(8,.slice aW W.length cW),(13,i64 i),(14,.pointer (some ⟨b14,0,none⟩)),(15,i64 N),(17,str Wk),(18,str Vk)]) ?_ ?_
 ·refine Wc_cond rfl (fun hb=>?_) (fun hb=>?_)
  ·have hp:0<=s.print:=of_decide_eq_true hb
   rw[if_pos hp] at hwk hvk
   obtain⟨bp,op,oap,rfl,ap,cp,hrp,-⟩:=pr_row m5 (s:=s) hp (by omega)
   have z1:cellAt h8 bp (op+s.print.toNat*7+1)=some (str (prAt t s).work):=hE5.cell (cell_of_row hrp rfl)
   have z2:cellAt h8 bp (op+s.print.toNat*7+2)=some (str (prAt t s).version):=hE5.cell (cell_of_row hrp rfl)
   rw[<-hwk] at z1
   rw[<-hvk] at z2
   refine zy ?_
   refine Wc_draw hmix [0,1,0,4,15,31,63,0,128,0,512,1920,3968,8064,127,32767] [0,1,2,3,4,5,6,7,8,9,10,11,12,13] (some 14) [([],(some 15)),([],none)] (by kernel_rfl) (by kernel_rfl) ?_
   refine z_f ?_;refine z_l ?_;refine z_f ?_;refine z_l ?_;refine Wp_pure rfl rfl rfl rfl rfl (fun _=>A_indexAddr (k:=s.print.toNat) Und.h Tsz.h rfl rfl (by omega) (by omega)) ?_;refine z_f ?_;refine z_l ?_;refine z_f ?_;refine z_l ?_;refine z_f ?_;refine z_l ?_;refine Wp_pure rfl rfl rfl rfl rfl (fun _=>A_indexAddr (k:=s.print.toNat) Und.h Tsz.h rfl rfl (by omega) (by omega)) ?_;refine z_f ?_;refine z_l ?_
   refine Wp_eff [0,1,2,3,4,5,6] (by kernel_rfl) rfl (Stl_nil rfl) rfl nb rfl (W1_op rfl rfl (A_assign rfl) ?_)
   refine Wp_eff [0,1,2,3,4,5,6,7,8,9,10,11,12,13,14] (by kernel_rfl) rfl (by refine t_l 13 ?_;refine t_f 12 ?_;refine Stl_pure (i:=11) rfl rfl rfl rfl rfl (fun _=>A_indexAddr (k:=s.print.toNat) Und.h Tsz.h rfl rfl (by omega) (by omega)) rfl ?_;refine t_l 10 ?_;refine t_f 9 ?_;refine t_l 8 ?_;refine t_f 7 ?_;exact Stl_nil rfl) rfl nb rfl (W1_op rfl rfl (A_assign rfl) ?_)
   refine Wp_end (Stl_nil rfl) nb' ?_
   exact⟨rfl,rfl,rfl,rfl,rfl,rfl,rfl,rfl,rfl,rfl,rfl,trivial⟩
  ·have hp:¬0<=s.print:=of_decide_eq_false hb
   rw[if_neg hp] at hwk hvk
   obtain⟨bp,op,oap,rfl,hrp⟩:=pk_row m6 (s:=s) (by omega) (by omega)
   have z1:cellAt h8 bp (op+s.pack.toNat*5+1)=some (str (pkAt t s).work):=hE5.cell (cell_of_row hrp rfl)
   have z2:cellAt h8 bp (op+s.pack.toNat*5+2)=some (str (pkAt t s).version):=hE5.cell (cell_of_row hrp rfl)
   rw[<-hwk] at z1
   rw[<-hvk] at z2
   refine zy ?_
   refine Wc_draw hmix [0,1,0,4,15,31,63,0,128,0,512,1920,3968,8064,127,32767] [0,1,2,3,4,5,6,7,8,9,10,11,12,13] (some 14) [([],(some 15)),([],none)] (by kernel_rfl) (by kernel_rfl) ?_
   refine z_f ?_;refine z_l ?_;refine z_f ?_;refine z_l ?_;refine Wp_pure rfl rfl rfl rfl rfl (fun _=>A_indexAddr (k:=s.pack.toNat) Und.h Tsz.h rfl rfl (by omega) (by omega)) ?_;refine z_f ?_;refine z_l ?_;refine z_f ?_;refine z_l ?_;refine z_f ?_;refine z_l ?_;refine Wp_pure rfl rfl rfl rfl rfl (fun _=>A_indexAddr (k:=s.pack.toNat) Und.h Tsz.h rfl rfl (by omega) (by omega)) ?_;refine z_f ?_;refine z_l ?_
   refine Wp_eff [0,1,2,3,4,5,6] (by kernel_rfl) rfl (Stl_nil rfl) rfl nb rfl (W1_op rfl rfl (A_assign rfl) ?_)
   refine Wp_eff [0,1,2,3,4,5,6,7,8,9,10,11,12,13,14] (by kernel_rfl) rfl (by refine t_l 13 ?_;refine t_f 12 ?_;refine Stl_pure (i:=11) rfl rfl rfl rfl rfl (fun _=>A_indexAddr (k:=s.pack.toNat) Und.h Tsz.h rfl rfl (by omega) (by omega)) rfl ?_;refine t_l 10 ?_;refine t_f 9 ?_;refine t_l 8 ?_;refine t_f 7 ?_;exact Stl_nil rfl) rfl nb rfl (W1_op rfl rfl (A_assign rfl) ?_)
   refine Wp_end (Stl_nil rfl) nb' ?_
   exact⟨rfl,rfl,rfl,rfl,rfl,rfl,rfl,rfl,rfl,rfl,rfl,trivial⟩
 rintro _ m' ds' h' ⟨rfl,rfl,rfl,hall⟩
 show Wc _ _ _ _ _ _ _
 refine Wc.le ?_ (Le.kn hall)
 clear hall hwk hvk
 refine zy ?_
 refine Wo_do rfl rfl rfl rfl (A_quo rfl rfl (by omega) (day_tdiv (by omega)) (by omega) (by omega)) ?_
 refine zy ?_
 refine Wc.mono (Q:=fun x m' ds' h'=>x=.exit 2/\ds'=[]/\Ext h4 h'/\h'.get b14=some (.cells [i64 s.venue,i64 s.print,i64 s.pack,i64 s.minute,i64 s.speed,i64 s.worth] 42 false)/\AllK m' [(2,.pointer (some ⟨b1,0,none⟩)),(5,.slice (some ⟨bk,ok,oak⟩) K.length cK),(8,.slice aW W.length cW),(13,i64 i),(14,.pointer (some ⟨b14,0,none⟩)),(15,i64 N)]) (Wc_loop (fun (day:Int) m ds h'=>ds=[]/\Ext h4 h'/\h'.get b14=some (.cells [i64 s.venue,i64 s.print,i64 s.pack,i64 s.minute,i64 s.speed,i64 s.worth] 42 false)/\t.first+s.minute / 1440<=day/\day<=t.first+(s.minute+N-1) / 1440+1/\AllK m [(2,.pointer (some ⟨b1,0,none⟩)),(5,.slice (some ⟨bk,ok,oak⟩) K.length cK),(8,.slice aW W.length cW),(13,i64 i),(14,.pointer (some ⟨b14,0,none⟩)),(15,i64 N),(17,str Wk),(18,str Vk),(19,i64 day)]) (fun day=>(t.first+(s.minute+N-1) / 1440+1-day).toNat) (t.first+s.minute / 1440) ?_ ?_) ?_
 ·exact⟨rfl,hE5,hg7,Int.le_refl _,by omega,rfl,rfl,rfl,rfl,rfl,rfl,rfl,rfl,rfl,trivial⟩
 ·clear hE5 hg7 g1
  clear h8
  rintro day m ds h9 ⟨rfl,hE9,hg9,hd0,hd1,hall⟩
  refine Wc.le ?_ (Le.kn hall)
  have g1:=hE9.get hg1
  refine zy ?_
  refine Wo_do rfl rfl rfl rfl (A_quo rfl rfl (by omega) (day_tdiv (by omega)) (by omega) (by omega)) ?_
  refine zy ?_
  refine Wo_dec rfl rfl rfl rfl (A_leq rfl rfl) (fun h10=>?_) (fun h10=>?_)
  rotate_left
  ·refine zy ?_
   exact⟨rfl,rfl,hE9,hg9,rfl,rfl,rfl,rfl,rfl,rfl,trivial⟩
  have hR:=hrd hd0 h10
  refine zy ?_
  refine Wc_draw hmix [0,1,3,0,15] [0,1,2] (some 3) [([],(some 4)),([],none)] (by kernel_rfl) (by kernel_rfl) ?_
  refine z_f ?_;refine z_l ?_;refine Wp_pure rfl rfl rfl rfl rfl (fun _=>A_lss rfl rfl) ?_
  refine Wp_eff [] (by kernel_rfl) rfl (Stl_nil rfl) rfl nb rfl (W1_op rfl rfl (A_assign rfl) ?_)
  refine Wp_eff [0,1,2,3] (by kernel_rfl) rfl (by refine Stl_pure (i:=2) rfl rfl rfl rfl rfl (fun _=>A_lss rfl rfl) rfl ?_;refine t_l 1 ?_;refine t_f 0 ?_;exact Stl_nil rfl) rfl nb rfl (W1_op rfl rfl (A_assign rfl) ?_)
  refine Wp_end (Stl_nil rfl) nb' ?_
  refine zy ?_
  refine Wc.mono (Q:=fun x m' ds' h'=>x=.exit 4/\ds'=[]/\Ext h4 h'/\h'.get b14=some (.cells [i64 s.venue,i64 s.print,i64 s.pack,i64 s.minute,i64 s.speed,i64 s.worth] 42 false)/\AllK m' [(2,.pointer (some ⟨b1,0,none⟩)),(5,.slice (some ⟨bk,ok,oak⟩) K.length cK),(8,.slice aW W.length cW),(13,i64 i),(14,.pointer (some ⟨b14,0,none⟩)),(15,i64 N),(17,str Wk),(18,str Vk),(19,i64 day),(20,.bool true),(21,.bool (decide (s.print<0)))]) (Wc_loop (fun (k:Nat) m ds h'=>ds=[]/\Ext h4 h'/\h'.get b14=some (.cells [i64 s.venue,i64 s.print,i64 s.pack,i64 s.minute,i64 s.speed,i64 s.worth] 42 false)/\k<=t.rights.length/\AllK m [(2,.pointer (some ⟨b1,0,none⟩)),(5,.slice (some ⟨bk,ok,oak⟩) K.length cK),(8,.slice aW W.length cW),(13,i64 i),(14,.pointer (some ⟨b14,0,none⟩)),(15,i64 N),(17,str Wk),(18,str Vk),(19,i64 day),(20,.bool ((t.rights.take k).any (rDay Wk Vk L day))),(21,.bool (decide (s.print<0))),(22,i64 k)]) (fun k=>t.rights.length-k) 0 ?_ ?_) ?_
  ·exact⟨rfl,hE9,hg9,Nat.zero_le _,rfl,rfl,rfl,rfl,rfl,rfl,rfl,rfl,rfl,rfl,rfl,rfl,trivial⟩
  ·clear hE9 hg9 g1 hall
   clear h9
   rintro k m ds h9 ⟨rfl,hE9,hg9,hk,hall⟩
   refine Wc_wf fun hw9=>?_
   generalize hb:(t.rights.take k).any (rDay Wk Vk L day)=bb at *
   refine Wc.le ?_ (Le.kn hall)
   have g1:=hE9.get hg1
   refine zy ?_
   refine Wo_dec rfl rfl rfl rfl (A_lss rfl rfl) (fun h11=>?_) (fun h11=>?_)
   rotate_left
   ·have hk2:k=t.rights.length:=by omega
    subst hk2
    rw[List.take_length,hR] at hb
    subst hb
    refine zy ?_
    exact⟨rfl,rfl,hE9,hg9,rfl,rfl,rfl,rfl,rfl,rfl,rfl,rfl,rfl,rfl,rfl,trivial⟩
   have hk':k<t.rights.length:=by simpa using h11
   obtain⟨bl,ol,oal,rfl,row,hrow,hma⟩:=m4 k hk'
   have hnx:=any_take (f:=rDay Wk Vk L day) hk'
   rw[hb] at hnx
   generalize hmk:t.rights[k]=x at *
   obtain rfl:=hma
   replace hrow:=hE9.row hrow
   refine zy ?_
   refine Wo_do rfl rfl rfl rfl (A_ix Und.h Tsz.h rfl rfl) ?_
   refine zy ?_
   refine Wo_allocStore rfl rfl Zr.h Tsz.h rfl (fun _=>rfl) rfl rfl rfl fun h12 hE12 hW12 hg12 hn12=>?_
   replace hE9:=hE9.trans hE12
   replace hg9:=hE12.get hg9
   replace g1:=hE12.get g1
   have z1:=hE9.cell y1
   generalize h9.nx=b9 at *
   clear hrow hn12 hE12 hw9
   clear h9
   cases bb
   ·by_cases e1:x.work=Wk
    ·by_cases e2:x.version=[]
     ·skip
      by_cases e4:x.land=L
      ·by_cases e5:x.days.lo<=day
       ·by_cases e6:day<=x.days.hi
        ·refine zy ?_
         refine Wc_draw hmix [0,1,3,7,3,31,63,127,255,511,1023,2047,4095,2047,16383,32767,65535,131071,262143,524287,262143,1310719,262143,4456447,15990783,32767999,66322431,134217727,268435455,536870911,1073741823,2147483647,4294967295,1073741823,17179869183,34359738367,68719476735,137438953471,137438953471,412316860415,962072674303,2199023255551,4398046511103,8796093022207,17592186044415] [0,1,2,3,4,5,6,7,8,9,10,11,12,13,14,15,16,17,18,19,20,21,22,23,24,25,26,27,28,29,30,31,32,33,34,35,36,37,38,39,40,41,42,43] (some 44) [([],none)] (by kernel_rfl) (by kernel_rfl) ?_
         refine z_m ?_;refine z_m ?_;refine g_f ?_;refine g_l ?_;refine g_m ?_
         first|refine Wp_off rfl rfl rfl rfl ?_|refine Wp_pure rfl rfl rfl rfl rfl (fun _=>A_tt e1 (A_eqlStr rfl rfl)) ?_
         refine g_m ?_;refine g_f ?_;refine g_l ?_
         first|refine Wp_off rfl rfl rfl rfl ?_|refine Wp_pure rfl rfl rfl rfl rfl (fun _=>A_tt e2 (A_eqlStr rfl rfl)) ?_
         refine g_m ?_;refine g_f ?_;refine g_l ?_;refine g_m ?_;refine z_o ?_;refine g_p ?_;refine g_p ?_;refine g_m ?_;refine g_f ?_;refine g_l ?_;refine g_f ?_;refine g_l ?_;refine g_f ?_;refine g_l ?_
         first|refine Wp_off rfl rfl rfl rfl ?_|refine Wp_pure rfl rfl rfl rfl rfl (fun _=>A_indexAddr (k:=s.venue.toNat) Und.h Tsz.h rfl rfl (by omega) (by omega)) ?_
         refine g_f ?_;refine g_l ?_
         first|refine Wp_off rfl rfl rfl rfl ?_|refine Wp_pure rfl rfl rfl rfl rfl (fun _=>A_tt e4 (A_eql rfl rfl)) ?_
         refine g_p ?_;refine g_m ?_;refine g_f ?_;refine g_f ?_;refine g_l ?_;refine g_m ?_
         first|refine Wp_off rfl rfl rfl rfl ?_|refine Wp_pure rfl rfl rfl rfl rfl (fun _=>A_tt e5 (A_leq rfl rfl)) ?_
         refine g_p ?_;refine g_m ?_;refine g_m ?_;refine g_f ?_;refine g_f ?_;refine g_l ?_
         first|refine Wp_off rfl rfl rfl rfl ?_|refine Wp_pure rfl rfl rfl rfl rfl (fun _=>A_tt e6 (A_leq rfl rfl)) ?_
         refine g_p ?_;refine z_p ?_
         refine Wp_eff [0,1,2,3,4,5,6,7,8,9,10,11,12,13,14,15,16,17,18,19,20,21,22,23,24,25,26,27,28,29,30,31,32,33,34,35,36,37,38,39,40,41,42,43] (by kernel_rfl) rfl (Stl_nil rfl) rfl nb rfl (W1_op rfl rfl (A_assign rfl) ?_)
         refine Wp_end (Stl_nil rfl) nb' ?_
         refine zy ?_
         refine⟨k+1,(by show t.rights.length-(k+1)<t.rights.length-k;omega),rfl,hE9,hg9,hk',rfl,rfl,rfl,rfl,rfl,rfl,rfl,rfl,rfl,?_,rfl,rfl,trivial⟩
         rw[hnx,Bool.false_or,show rDay Wk Vk L day x=true from decide_eq_true ⟨e1,.inl e2,e4,e5,e6⟩];rfl
        ·refine zy ?_
         refine Wc_draw hmix [0,1,3,7,3,31,63,127,255,511,1023,2047,4095,2047,16383,32767,65535,131071,262143,524287,262143,1310719,262143,4456447,15990783,32767999,66322431,134217727,268435455,536870911,1073741823,2147483647,4294967295,1073741823,17179869183,34359738367,68719476735,137438953471,137438953471,412316860415,962072674303,2199023255551,4398046511103,8796093022207,17592186044415] [0,1,2,3,4,5,6,7,8,9,10,11,12,13,14,15,16,17,18,19,20,21,22,23,24,25,26,27,28,29,30,31,32,33,34,35,36,37,38,39,40,41,42,43] (some 44) [([],none)] (by kernel_rfl) (by kernel_rfl) ?_
         refine z_m ?_;refine z_m ?_;refine g_f ?_;refine g_l ?_;refine g_m ?_
         first|refine Wp_off rfl rfl rfl rfl ?_|refine Wp_pure rfl rfl rfl rfl rfl (fun _=>A_tt e1 (A_eqlStr rfl rfl)) ?_
         refine g_m ?_;refine g_f ?_;refine g_l ?_
         first|refine Wp_off rfl rfl rfl rfl ?_|refine Wp_pure rfl rfl rfl rfl rfl (fun _=>A_tt e2 (A_eqlStr rfl rfl)) ?_
         refine g_m ?_;refine g_f ?_;refine g_l ?_;refine g_m ?_;refine z_o ?_;refine g_p ?_;refine g_p ?_;refine g_m ?_;refine g_f ?_;refine g_l ?_;refine g_f ?_;refine g_l ?_;refine g_f ?_;refine g_l ?_
         first|refine Wp_off rfl rfl rfl rfl ?_|refine Wp_pure rfl rfl rfl rfl rfl (fun _=>A_indexAddr (k:=s.venue.toNat) Und.h Tsz.h rfl rfl (by omega) (by omega)) ?_
         refine g_f ?_;refine g_l ?_
         first|refine Wp_off rfl rfl rfl rfl ?_|refine Wp_pure rfl rfl rfl rfl rfl (fun _=>A_tt e4 (A_eql rfl rfl)) ?_
         refine g_p ?_;refine g_m ?_;refine g_f ?_;refine g_f ?_;refine g_l ?_;refine g_m ?_
         first|refine Wp_off rfl rfl rfl rfl ?_|refine Wp_pure rfl rfl rfl rfl rfl (fun _=>A_tt e5 (A_leq rfl rfl)) ?_
         refine g_p ?_;refine g_m ?_;refine g_m ?_;refine g_f ?_;refine g_f ?_;refine g_l ?_
         first|refine Wp_off rfl rfl rfl rfl ?_|refine Wp_pure rfl rfl rfl rfl rfl (fun _=>A_ff e6 (A_leq rfl rfl)) ?_
         refine g_p ?_;refine z_p ?_
         refine Wp_eff [0,1,2,3,4,5,6,7,8,9,10,11,12,13,14,15,16,17,18,19,20,21,22,23,24,25,26,27,28,29,30,31,32,33,34,35,36,37,38,39,40,41,42,43] (by kernel_rfl) rfl (Stl_nil rfl) rfl nb rfl (W1_op rfl rfl (A_assign rfl) ?_)
         refine Wp_end (Stl_nil rfl) nb' ?_
         refine zy ?_
         refine⟨k+1,(by show t.rights.length-(k+1)<t.rights.length-k;omega),rfl,hE9,hg9,hk',rfl,rfl,rfl,rfl,rfl,rfl,rfl,rfl,rfl,?_,rfl,rfl,trivial⟩
         rw[hnx,Bool.false_or,show rDay Wk Vk L day x=false from decide_eq_false (fun e=>e6 e.2.2.2.2)];rfl
       ·refine zy ?_
        refine Wc_draw hmix [0,1,3,7,3,31,63,127,255,511,1023,2047,4095,2047,16383,32767,65535,131071,262143,524287,262143,1310719,262143,4456447,15990783,32767999,66322431,134217727,268435455,536870911,1073741823,2147483647,4294967295,1073741823,17179869183,34359738367,68719476735,137438953471,137438953471,412316860415,962072674303,2199023255551,4398046511103,8796093022207,17592186044415] [0,1,2,3,4,5,6,7,8,9,10,11,12,13,14,15,16,17,18,19,20,21,22,23,24,25,26,27,28,29,30,31,32,33,34,35,36,37,38,39,40,41,42,43] (some 44) [([],none)] (by kernel_rfl) (by kernel_rfl) ?_
        refine z_m ?_;refine z_m ?_;refine g_f ?_;refine g_l ?_;refine g_m ?_
        first|refine Wp_off rfl rfl rfl rfl ?_|refine Wp_pure rfl rfl rfl rfl rfl (fun _=>A_tt e1 (A_eqlStr rfl rfl)) ?_
        refine g_m ?_;refine g_f ?_;refine g_l ?_
        first|refine Wp_off rfl rfl rfl rfl ?_|refine Wp_pure rfl rfl rfl rfl rfl (fun _=>A_tt e2 (A_eqlStr rfl rfl)) ?_
        refine g_m ?_;refine g_f ?_;refine g_l ?_;refine g_m ?_;refine z_o ?_;refine g_p ?_;refine g_p ?_;refine g_m ?_;refine g_f ?_;refine g_l ?_;refine g_f ?_;refine g_l ?_;refine g_f ?_;refine g_l ?_
        first|refine Wp_off rfl rfl rfl rfl ?_|refine Wp_pure rfl rfl rfl rfl rfl (fun _=>A_indexAddr (k:=s.venue.toNat) Und.h Tsz.h rfl rfl (by omega) (by omega)) ?_
        refine g_f ?_;refine g_l ?_
        first|refine Wp_off rfl rfl rfl rfl ?_|refine Wp_pure rfl rfl rfl rfl rfl (fun _=>A_tt e4 (A_eql rfl rfl)) ?_
        refine g_p ?_;refine g_m ?_;refine g_f ?_;refine g_f ?_;refine g_l ?_;refine g_m ?_
        first|refine Wp_off rfl rfl rfl rfl ?_|refine Wp_pure rfl rfl rfl rfl rfl (fun _=>A_ff e5 (A_leq rfl rfl)) ?_
        refine g_p ?_;refine g_m ?_;refine g_m ?_;refine g_f ?_;refine g_f ?_;refine g_l ?_;refine z_o ?_;refine g_p ?_;refine z_p ?_
        refine Wp_eff [0,1,2,3,4,5,6,7,8,9,10,11,12,13,14,15,16,17,18,19,20,21,22,23,24,25,26,27,28,29,30,31,32,33,34,35,36,37,38,39,40,41,42,43] (by kernel_rfl) rfl (Stl_nil rfl) rfl nb rfl (W1_op rfl rfl (A_assign rfl) ?_)
        refine Wp_end (Stl_nil rfl) nb' ?_
        refine zy ?_
        refine⟨k+1,(by show t.rights.length-(k+1)<t.rights.length-k;omega),rfl,hE9,hg9,hk',rfl,rfl,rfl,rfl,rfl,rfl,rfl,rfl,rfl,?_,rfl,rfl,trivial⟩
        rw[hnx,Bool.false_or,show rDay Wk Vk L day x=false from decide_eq_false (fun e=>e5 e.2.2.2.1)];rfl
      ·refine zy ?_
       refine Wc_draw hmix [0,1,3,7,3,31,63,127,255,511,1023,2047,4095,2047,16383,32767,65535,131071,262143,524287,262143,1310719,262143,4456447,15990783,32767999,66322431,134217727,268435455,536870911,1073741823,2147483647,4294967295,1073741823,17179869183,34359738367,68719476735,137438953471,137438953471,412316860415,962072674303,2199023255551,4398046511103,8796093022207,17592186044415] [0,1,2,3,4,5,6,7,8,9,10,11,12,13,14,15,16,17,18,19,20,21,22,23,24,25,26,27,28,29,30,31,32,33,34,35,36,37,38,39,40,41,42,43] (some 44) [([],none)] (by kernel_rfl) (by kernel_rfl) ?_
       refine z_m ?_;refine z_m ?_;refine g_f ?_;refine g_l ?_;refine g_m ?_
       first|refine Wp_off rfl rfl rfl rfl ?_|refine Wp_pure rfl rfl rfl rfl rfl (fun _=>A_tt e1 (A_eqlStr rfl rfl)) ?_
       refine g_m ?_;refine g_f ?_;refine g_l ?_
       first|refine Wp_off rfl rfl rfl rfl ?_|refine Wp_pure rfl rfl rfl rfl rfl (fun _=>A_tt e2 (A_eqlStr rfl rfl)) ?_
       refine g_m ?_;refine g_f ?_;refine g_l ?_;refine g_m ?_;refine z_o ?_;refine g_p ?_;refine g_p ?_;refine g_m ?_;refine g_f ?_;refine g_l ?_;refine g_f ?_;refine g_l ?_;refine g_f ?_;refine g_l ?_
       first|refine Wp_off rfl rfl rfl rfl ?_|refine Wp_pure rfl rfl rfl rfl rfl (fun _=>A_indexAddr (k:=s.venue.toNat) Und.h Tsz.h rfl rfl (by omega) (by omega)) ?_
       refine g_f ?_;refine g_l ?_
       first|refine Wp_off rfl rfl rfl rfl ?_|refine Wp_pure rfl rfl rfl rfl rfl (fun _=>A_ff e4 (A_eql rfl rfl)) ?_
       refine g_p ?_;refine g_m ?_;refine g_f ?_;refine g_f ?_;refine g_l ?_;refine g_m ?_;refine z_o ?_;refine g_p ?_;refine g_m ?_;refine g_m ?_;refine g_f ?_;refine g_f ?_;refine g_l ?_;refine z_o ?_;refine g_p ?_;refine z_p ?_
       refine Wp_eff [0,1,2,3,4,5,6,7,8,9,10,11,12,13,14,15,16,17,18,19,20,21,22,23,24,25,26,27,28,29,30,31,32,33,34,35,36,37,38,39,40,41,42,43] (by kernel_rfl) rfl (Stl_nil rfl) rfl nb rfl (W1_op rfl rfl (A_assign rfl) ?_)
       refine Wp_end (Stl_nil rfl) nb' ?_
       refine zy ?_
       refine⟨k+1,(by show t.rights.length-(k+1)<t.rights.length-k;omega),rfl,hE9,hg9,hk',rfl,rfl,rfl,rfl,rfl,rfl,rfl,rfl,rfl,?_,rfl,rfl,trivial⟩
       rw[hnx,Bool.false_or,show rDay Wk Vk L day x=false from decide_eq_false (fun e=>e4 e.2.2.1)];rfl
     by_cases e3:x.version=Vk
     ·skip
      by_cases e4:x.land=L
      ·by_cases e5:x.days.lo<=day
       ·by_cases e6:day<=x.days.hi
        ·refine zy ?_
         refine Wc_draw hmix [0,1,3,7,3,31,63,127,255,511,1023,2047,4095,2047,16383,32767,65535,131071,262143,524287,262143,1310719,262143,4456447,15990783,32767999,66322431,134217727,268435455,536870911,1073741823,2147483647,4294967295,1073741823,17179869183,34359738367,68719476735,137438953471,137438953471,412316860415,962072674303,2199023255551,4398046511103,8796093022207,17592186044415] [0,1,2,3,4,5,6,7,8,9,10,11,12,13,14,15,16,17,18,19,20,21,22,23,24,25,26,27,28,29,30,31,32,33,34,35,36,37,38,39,40,41,42,43] (some 44) [([],none)] (by kernel_rfl) (by kernel_rfl) ?_
         refine z_m ?_;refine z_m ?_;refine g_f ?_;refine g_l ?_;refine g_m ?_
         first|refine Wp_off rfl rfl rfl rfl ?_|refine Wp_pure rfl rfl rfl rfl rfl (fun _=>A_tt e1 (A_eqlStr rfl rfl)) ?_
         refine g_m ?_;refine g_f ?_;refine g_l ?_
         first|refine Wp_off rfl rfl rfl rfl ?_|refine Wp_pure rfl rfl rfl rfl rfl (fun _=>A_ff e2 (A_eqlStr rfl rfl)) ?_
         refine g_m ?_;refine g_f ?_;refine g_l ?_;refine g_m ?_
         first|refine Wp_off rfl rfl rfl rfl ?_|refine Wp_pure rfl rfl rfl rfl rfl (fun _=>A_tt e3 (A_eqlStr rfl rfl)) ?_
         refine g_p ?_;refine g_p ?_;refine g_m ?_;refine g_f ?_;refine g_l ?_;refine g_f ?_;refine g_l ?_;refine g_f ?_;refine g_l ?_
         first|refine Wp_off rfl rfl rfl rfl ?_|refine Wp_pure rfl rfl rfl rfl rfl (fun _=>A_indexAddr (k:=s.venue.toNat) Und.h Tsz.h rfl rfl (by omega) (by omega)) ?_
         refine g_f ?_;refine g_l ?_
         first|refine Wp_off rfl rfl rfl rfl ?_|refine Wp_pure rfl rfl rfl rfl rfl (fun _=>A_tt e4 (A_eql rfl rfl)) ?_
         refine g_p ?_;refine g_m ?_;refine g_f ?_;refine g_f ?_;refine g_l ?_;refine g_m ?_
         first|refine Wp_off rfl rfl rfl rfl ?_|refine Wp_pure rfl rfl rfl rfl rfl (fun _=>A_tt e5 (A_leq rfl rfl)) ?_
         refine g_p ?_;refine g_m ?_;refine g_m ?_;refine g_f ?_;refine g_f ?_;refine g_l ?_
         first|refine Wp_off rfl rfl rfl rfl ?_|refine Wp_pure rfl rfl rfl rfl rfl (fun _=>A_tt e6 (A_leq rfl rfl)) ?_
         refine g_p ?_;refine z_p ?_
         refine Wp_eff [0,1,2,3,4,5,6,7,8,9,10,11,12,13,14,15,16,17,18,19,20,21,22,23,24,25,26,27,28,29,30,31,32,33,34,35,36,37,38,39,40,41,42,43] (by kernel_rfl) rfl (Stl_nil rfl) rfl nb rfl (W1_op rfl rfl (A_assign rfl) ?_)
         refine Wp_end (Stl_nil rfl) nb' ?_
         refine zy ?_
         refine⟨k+1,(by show t.rights.length-(k+1)<t.rights.length-k;omega),rfl,hE9,hg9,hk',rfl,rfl,rfl,rfl,rfl,rfl,rfl,rfl,rfl,?_,rfl,rfl,trivial⟩
         rw[hnx,Bool.false_or,show rDay Wk Vk L day x=true from decide_eq_true ⟨e1,.inr e3,e4,e5,e6⟩];rfl
        ·refine zy ?_
         refine Wc_draw hmix [0,1,3,7,3,31,63,127,255,511,1023,2047,4095,2047,16383,32767,65535,131071,262143,524287,262143,1310719,262143,4456447,15990783,32767999,66322431,134217727,268435455,536870911,1073741823,2147483647,4294967295,1073741823,17179869183,34359738367,68719476735,137438953471,137438953471,412316860415,962072674303,2199023255551,4398046511103,8796093022207,17592186044415] [0,1,2,3,4,5,6,7,8,9,10,11,12,13,14,15,16,17,18,19,20,21,22,23,24,25,26,27,28,29,30,31,32,33,34,35,36,37,38,39,40,41,42,43] (some 44) [([],none)] (by kernel_rfl) (by kernel_rfl) ?_
         refine z_m ?_;refine z_m ?_;refine g_f ?_;refine g_l ?_;refine g_m ?_
         first|refine Wp_off rfl rfl rfl rfl ?_|refine Wp_pure rfl rfl rfl rfl rfl (fun _=>A_tt e1 (A_eqlStr rfl rfl)) ?_
         refine g_m ?_;refine g_f ?_;refine g_l ?_
         first|refine Wp_off rfl rfl rfl rfl ?_|refine Wp_pure rfl rfl rfl rfl rfl (fun _=>A_ff e2 (A_eqlStr rfl rfl)) ?_
         refine g_m ?_;refine g_f ?_;refine g_l ?_;refine g_m ?_
         first|refine Wp_off rfl rfl rfl rfl ?_|refine Wp_pure rfl rfl rfl rfl rfl (fun _=>A_tt e3 (A_eqlStr rfl rfl)) ?_
         refine g_p ?_;refine g_p ?_;refine g_m ?_;refine g_f ?_;refine g_l ?_;refine g_f ?_;refine g_l ?_;refine g_f ?_;refine g_l ?_
         first|refine Wp_off rfl rfl rfl rfl ?_|refine Wp_pure rfl rfl rfl rfl rfl (fun _=>A_indexAddr (k:=s.venue.toNat) Und.h Tsz.h rfl rfl (by omega) (by omega)) ?_
         refine g_f ?_;refine g_l ?_
         first|refine Wp_off rfl rfl rfl rfl ?_|refine Wp_pure rfl rfl rfl rfl rfl (fun _=>A_tt e4 (A_eql rfl rfl)) ?_
         refine g_p ?_;refine g_m ?_;refine g_f ?_;refine g_f ?_;refine g_l ?_;refine g_m ?_
         first|refine Wp_off rfl rfl rfl rfl ?_|refine Wp_pure rfl rfl rfl rfl rfl (fun _=>A_tt e5 (A_leq rfl rfl)) ?_
         refine g_p ?_;refine g_m ?_;refine g_m ?_;refine g_f ?_;refine g_f ?_;refine g_l ?_
         first|refine Wp_off rfl rfl rfl rfl ?_|refine Wp_pure rfl rfl rfl rfl rfl (fun _=>A_ff e6 (A_leq rfl rfl)) ?_
         refine g_p ?_;refine z_p ?_
         refine Wp_eff [0,1,2,3,4,5,6,7,8,9,10,11,12,13,14,15,16,17,18,19,20,21,22,23,24,25,26,27,28,29,30,31,32,33,34,35,36,37,38,39,40,41,42,43] (by kernel_rfl) rfl (Stl_nil rfl) rfl nb rfl (W1_op rfl rfl (A_assign rfl) ?_)
         refine Wp_end (Stl_nil rfl) nb' ?_
         refine zy ?_
         refine⟨k+1,(by show t.rights.length-(k+1)<t.rights.length-k;omega),rfl,hE9,hg9,hk',rfl,rfl,rfl,rfl,rfl,rfl,rfl,rfl,rfl,?_,rfl,rfl,trivial⟩
         rw[hnx,Bool.false_or,show rDay Wk Vk L day x=false from decide_eq_false (fun e=>e6 e.2.2.2.2)];rfl
       ·refine zy ?_
        refine Wc_draw hmix [0,1,3,7,3,31,63,127,255,511,1023,2047,4095,2047,16383,32767,65535,131071,262143,524287,262143,1310719,262143,4456447,15990783,32767999,66322431,134217727,268435455,536870911,1073741823,2147483647,4294967295,1073741823,17179869183,34359738367,68719476735,137438953471,137438953471,412316860415,962072674303,2199023255551,4398046511103,8796093022207,17592186044415] [0,1,2,3,4,5,6,7,8,9,10,11,12,13,14,15,16,17,18,19,20,21,22,23,24,25,26,27,28,29,30,31,32,33,34,35,36,37,38,39,40,41,42,43] (some 44) [([],none)] (by kernel_rfl) (by kernel_rfl) ?_
        refine z_m ?_;refine z_m ?_;refine g_f ?_;refine g_l ?_;refine g_m ?_
        first|refine Wp_off rfl rfl rfl rfl ?_|refine Wp_pure rfl rfl rfl rfl rfl (fun _=>A_tt e1 (A_eqlStr rfl rfl)) ?_
        refine g_m ?_;refine g_f ?_;refine g_l ?_
        first|refine Wp_off rfl rfl rfl rfl ?_|refine Wp_pure rfl rfl rfl rfl rfl (fun _=>A_ff e2 (A_eqlStr rfl rfl)) ?_
        refine g_m ?_;refine g_f ?_;refine g_l ?_;refine g_m ?_
        first|refine Wp_off rfl rfl rfl rfl ?_|refine Wp_pure rfl rfl rfl rfl rfl (fun _=>A_tt e3 (A_eqlStr rfl rfl)) ?_
        refine g_p ?_;refine g_p ?_;refine g_m ?_;refine g_f ?_;refine g_l ?_;refine g_f ?_;refine g_l ?_;refine g_f ?_;refine g_l ?_
        first|refine Wp_off rfl rfl rfl rfl ?_|refine Wp_pure rfl rfl rfl rfl rfl (fun _=>A_indexAddr (k:=s.venue.toNat) Und.h Tsz.h rfl rfl (by omega) (by omega)) ?_
        refine g_f ?_;refine g_l ?_
        first|refine Wp_off rfl rfl rfl rfl ?_|refine Wp_pure rfl rfl rfl rfl rfl (fun _=>A_tt e4 (A_eql rfl rfl)) ?_
        refine g_p ?_;refine g_m ?_;refine g_f ?_;refine g_f ?_;refine g_l ?_;refine g_m ?_
        first|refine Wp_off rfl rfl rfl rfl ?_|refine Wp_pure rfl rfl rfl rfl rfl (fun _=>A_ff e5 (A_leq rfl rfl)) ?_
        refine g_p ?_;refine g_m ?_;refine g_m ?_;refine g_f ?_;refine g_f ?_;refine g_l ?_;refine z_o ?_;refine g_p ?_;refine z_p ?_
        refine Wp_eff [0,1,2,3,4,5,6,7,8,9,10,11,12,13,14,15,16,17,18,19,20,21,22,23,24,25,26,27,28,29,30,31,32,33,34,35,36,37,38,39,40,41,42,43] (by kernel_rfl) rfl (Stl_nil rfl) rfl nb rfl (W1_op rfl rfl (A_assign rfl) ?_)
        refine Wp_end (Stl_nil rfl) nb' ?_
        refine zy ?_
        refine⟨k+1,(by show t.rights.length-(k+1)<t.rights.length-k;omega),rfl,hE9,hg9,hk',rfl,rfl,rfl,rfl,rfl,rfl,rfl,rfl,rfl,?_,rfl,rfl,trivial⟩
        rw[hnx,Bool.false_or,show rDay Wk Vk L day x=false from decide_eq_false (fun e=>e5 e.2.2.2.1)];rfl
      ·refine zy ?_
       refine Wc_draw hmix [0,1,3,7,3,31,63,127,255,511,1023,2047,4095,2047,16383,32767,65535,131071,262143,524287,262143,1310719,262143,4456447,15990783,32767999,66322431,134217727,268435455,536870911,1073741823,2147483647,4294967295,1073741823,17179869183,34359738367,68719476735,137438953471,137438953471,412316860415,962072674303,2199023255551,4398046511103,8796093022207,17592186044415] [0,1,2,3,4,5,6,7,8,9,10,11,12,13,14,15,16,17,18,19,20,21,22,23,24,25,26,27,28,29,30,31,32,33,34,35,36,37,38,39,40,41,42,43] (some 44) [([],none)] (by kernel_rfl) (by kernel_rfl) ?_
       refine z_m ?_;refine z_m ?_;refine g_f ?_;refine g_l ?_;refine g_m ?_
       first|refine Wp_off rfl rfl rfl rfl ?_|refine Wp_pure rfl rfl rfl rfl rfl (fun _=>A_tt e1 (A_eqlStr rfl rfl)) ?_
       refine g_m ?_;refine g_f ?_;refine g_l ?_
       first|refine Wp_off rfl rfl rfl rfl ?_|refine Wp_pure rfl rfl rfl rfl rfl (fun _=>A_ff e2 (A_eqlStr rfl rfl)) ?_
       refine g_m ?_;refine g_f ?_;refine g_l ?_;refine g_m ?_
       first|refine Wp_off rfl rfl rfl rfl ?_|refine Wp_pure rfl rfl rfl rfl rfl (fun _=>A_tt e3 (A_eqlStr rfl rfl)) ?_
       refine g_p ?_;refine g_p ?_;refine g_m ?_;refine g_f ?_;refine g_l ?_;refine g_f ?_;refine g_l ?_;refine g_f ?_;refine g_l ?_
       first|refine Wp_off rfl rfl rfl rfl ?_|refine Wp_pure rfl rfl rfl rfl rfl (fun _=>A_indexAddr (k:=s.venue.toNat) Und.h Tsz.h rfl rfl (by omega) (by omega)) ?_
       refine g_f ?_;refine g_l ?_
       first|refine Wp_off rfl rfl rfl rfl ?_|refine Wp_pure rfl rfl rfl rfl rfl (fun _=>A_ff e4 (A_eql rfl rfl)) ?_
       refine g_p ?_;refine g_m ?_;refine g_f ?_;refine g_f ?_;refine g_l ?_;refine g_m ?_;refine z_o ?_;refine g_p ?_;refine g_m ?_;refine g_m ?_;refine g_f ?_;refine g_f ?_;refine g_l ?_;refine z_o ?_;refine g_p ?_;refine z_p ?_
       refine Wp_eff [0,1,2,3,4,5,6,7,8,9,10,11,12,13,14,15,16,17,18,19,20,21,22,23,24,25,26,27,28,29,30,31,32,33,34,35,36,37,38,39,40,41,42,43] (by kernel_rfl) rfl (Stl_nil rfl) rfl nb rfl (W1_op rfl rfl (A_assign rfl) ?_)
       refine Wp_end (Stl_nil rfl) nb' ?_
       refine zy ?_
       refine⟨k+1,(by show t.rights.length-(k+1)<t.rights.length-k;omega),rfl,hE9,hg9,hk',rfl,rfl,rfl,rfl,rfl,rfl,rfl,rfl,rfl,?_,rfl,rfl,trivial⟩
       rw[hnx,Bool.false_or,show rDay Wk Vk L day x=false from decide_eq_false (fun e=>e4 e.2.2.1)];rfl
     refine zy ?_
     refine Wc_draw hmix [0,1,3,7,3,31,63,127,255,511,1023,2047,4095,2047,16383,32767,65535,131071,262143,524287,262143,1310719,262143,4456447,15990783,32767999,66322431,134217727,268435455,536870911,1073741823,2147483647,4294967295,1073741823,17179869183,34359738367,68719476735,137438953471,137438953471,412316860415,962072674303,2199023255551,4398046511103,8796093022207,17592186044415] [0,1,2,3,4,5,6,7,8,9,10,11,12,13,14,15,16,17,18,19,20,21,22,23,24,25,26,27,28,29,30,31,32,33,34,35,36,37,38,39,40,41,42,43] (some 44) [([],none)] (by kernel_rfl) (by kernel_rfl) ?_
     refine z_m ?_;refine z_m ?_;refine g_f ?_;refine g_l ?_;refine g_m ?_
     first|refine Wp_off rfl rfl rfl rfl ?_|refine Wp_pure rfl rfl rfl rfl rfl (fun _=>A_tt e1 (A_eqlStr rfl rfl)) ?_
     refine g_m ?_;refine g_f ?_;refine g_l ?_
     first|refine Wp_off rfl rfl rfl rfl ?_|refine Wp_pure rfl rfl rfl rfl rfl (fun _=>A_ff e2 (A_eqlStr rfl rfl)) ?_
     refine g_m ?_;refine g_f ?_;refine g_l ?_;refine g_m ?_
     first|refine Wp_off rfl rfl rfl rfl ?_|refine Wp_pure rfl rfl rfl rfl rfl (fun _=>A_ff e3 (A_eqlStr rfl rfl)) ?_
     refine g_p ?_;refine g_p ?_;refine g_m ?_;refine g_f ?_;refine g_l ?_;refine g_f ?_;refine g_l ?_;refine g_f ?_;refine g_l ?_;refine z_o ?_;refine g_f ?_;refine g_l ?_;refine z_o ?_;refine g_p ?_;refine g_m ?_;refine g_f ?_;refine g_f ?_;refine g_l ?_;refine g_m ?_;refine z_o ?_;refine g_p ?_;refine g_m ?_;refine g_m ?_;refine g_f ?_;refine g_f ?_;refine g_l ?_;refine z_o ?_;refine g_p ?_;refine z_p ?_
     refine Wp_eff [0,1,2,3,4,5,6,7,8,9,10,11,12,13,14,15,16,17,18,19,20,21,22,23,24,25,26,27,28,29,30,31,32,33,34,35,36,37,38,39,40,41,42,43] (by kernel_rfl) rfl (Stl_nil rfl) rfl nb rfl (W1_op rfl rfl (A_assign rfl) ?_)
     refine Wp_end (Stl_nil rfl) nb' ?_
     refine zy ?_
     refine⟨k+1,(by show t.rights.length-(k+1)<t.rights.length-k;omega),rfl,hE9,hg9,hk',rfl,rfl,rfl,rfl,rfl,rfl,rfl,rfl,rfl,?_,rfl,rfl,trivial⟩
     rw[hnx,Bool.false_or,show rDay Wk Vk L day x=false from decide_eq_false (fun e=>e.2.1.elim e2 e3)];rfl
    ·refine zy ?_
     refine Wc_draw hmix [0,1,3,7,3,31,63,127,255,511,1023,2047,4095,2047,16383,32767,65535,131071,262143,524287,262143,1310719,262143,4456447,15990783,32767999,66322431,134217727,268435455,536870911,1073741823,2147483647,4294967295,1073741823,17179869183,34359738367,68719476735,137438953471,137438953471,412316860415,962072674303,2199023255551,4398046511103,8796093022207,17592186044415] [0,1,2,3,4,5,6,7,8,9,10,11,12,13,14,15,16,17,18,19,20,21,22,23,24,25,26,27,28,29,30,31,32,33,34,35,36,37,38,39,40,41,42,43] (some 44) [([],none)] (by kernel_rfl) (by kernel_rfl) ?_
     refine z_m ?_;refine z_m ?_;refine g_f ?_;refine g_l ?_;refine g_m ?_
     first|refine Wp_off rfl rfl rfl rfl ?_|refine Wp_pure rfl rfl rfl rfl rfl (fun _=>A_ff e1 (A_eqlStr rfl rfl)) ?_
     refine g_m ?_;refine g_f ?_;refine g_l ?_;refine z_o ?_;refine g_m ?_;refine g_f ?_;refine g_l ?_;refine g_m ?_;refine z_o ?_;refine g_p ?_;refine g_p ?_;refine g_m ?_;refine g_f ?_;refine g_l ?_;refine g_f ?_;refine g_l ?_;refine g_f ?_;refine g_l ?_;refine z_o ?_;refine g_f ?_;refine g_l ?_;refine z_o ?_;refine g_p ?_;refine g_m ?_;refine g_f ?_;refine g_f ?_;refine g_l ?_;refine g_m ?_;refine z_o ?_;refine g_p ?_;refine g_m ?_;refine g_m ?_;refine g_f ?_;refine g_f ?_;refine g_l ?_;refine z_o ?_;refine g_p ?_;refine z_p ?_
     refine Wp_eff [0,1,2,3,4,5,6,7,8,9,10,11,12,13,14,15,16,17,18,19,20,21,22,23,24,25,26,27,28,29,30,31,32,33,34,35,36,37,38,39,40,41,42,43] (by kernel_rfl) rfl (Stl_nil rfl) rfl nb rfl (W1_op rfl rfl (A_assign rfl) ?_)
     refine Wp_end (Stl_nil rfl) nb' ?_
     refine zy ?_
     refine⟨k+1,(by show t.rights.length-(k+1)<t.rights.length-k;omega),rfl,hE9,hg9,hk',rfl,rfl,rfl,rfl,rfl,rfl,rfl,rfl,rfl,?_,rfl,rfl,trivial⟩
     rw[hnx,Bool.false_or,show rDay Wk Vk L day x=false from decide_eq_false (fun e=>e1 e.1)];rfl
   ·refine zy ?_
    refine Wc_draw hmix [0,1,3,7,3,31,63,127,255,511,1023,2047,4095,2047,16383,32767,65535,131071,262143,524287,262143,1310719,262143,4456447,15990783,32767999,66322431,134217727,268435455,536870911,1073741823,2147483647,4294967295,1073741823,17179869183,34359738367,68719476735,137438953471,137438953471,412316860415,962072674303,2199023255551,4398046511103,8796093022207,17592186044415] [0,1,2,3,4,5,6,7,8,9,10,11,12,13,14,15,16,17,18,19,20,21,22,23,24,25,26,27,28,29,30,31,32,33,34,35,36,37,38,39,40,41,42,43] (some 44) [([],none)] (by kernel_rfl) (by kernel_rfl) ?_
    refine z_m ?_;refine z_m ?_;refine g_f ?_;refine g_l ?_;refine g_m ?_;refine z_o ?_;refine g_m ?_;refine g_f ?_;refine g_l ?_;refine z_o ?_;refine g_m ?_;refine g_f ?_;refine g_l ?_;refine g_m ?_;refine z_o ?_;refine g_p ?_;refine g_p ?_;refine g_m ?_;refine g_f ?_;refine g_l ?_;refine g_f ?_;refine g_l ?_;refine g_f ?_;refine g_l ?_;refine z_o ?_;refine g_f ?_;refine g_l ?_;refine z_o ?_;refine g_p ?_;refine g_m ?_;refine g_f ?_;refine g_f ?_;refine g_l ?_;refine g_m ?_;refine z_o ?_;refine g_p ?_;refine g_m ?_;refine g_m ?_;refine g_f ?_;refine g_f ?_;refine g_l ?_;refine z_o ?_;refine g_p ?_;refine z_p ?_
    refine Wp_eff [0,1,2,3,4,5,6,7,8,9,10,11,12,13,14,15,16,17,18,19,20,21,22,23,24,25,26,27,28,29,30,31,32,33,34,35,36,37,38,39,40,41,42,43] (by kernel_rfl) rfl (Stl_nil rfl) rfl nb rfl (W1_op rfl rfl (A_assign rfl) ?_)
    refine Wp_end (Stl_nil rfl) nb' ?_
    refine zy ?_
    refine⟨k+1,(by show t.rights.length-(k+1)<t.rights.length-k;omega),rfl,hE9,hg9,hk',rfl,rfl,rfl,rfl,rfl,rfl,rfl,rfl,rfl,?_,rfl,rfl,trivial⟩
    rw[hnx,Bool.true_or];rfl
  rintro _ m' ds' h9 ⟨rfl,rfl,hE9,hg9,hall⟩
  show Wc _ _ _ _ _ _ _
  refine Wc.le ?_ (Le.kn hall)
  refine zy ?_
  have hX:(decide (s.print<0) || (t.loans.zip W).any (lDay s.print s.venue day))=true:=by
   by_cases hp:s.print<0
   ·rw[decide_eq_true hp];rfl
   ·rw[hld (by omega) hd0 h10,Bool.or_true]
  generalize hZ:t.loans.zip W=Z at *
  have hZl:Z.length=W.length:=by rw[<-hZ,List.length_zip];omega
  have hZm:∀m (hm:m<W.length),Z[m]'(by omega)=(t.loans[m]'(by omega),W[m]):=fun m hm=>by subst hZ;exact List.getElem_zip
  refine Wc.mono (Q:=fun x m' ds' h'=>x=.exit 6/\ds'=[]/\Ext h4 h'/\h'.get b14=some (.cells [i64 s.venue,i64 s.print,i64 s.pack,i64 s.minute,i64 s.speed,i64 s.worth] 42 false)/\AllK m' [(2,.pointer (some ⟨b1,0,none⟩)),(5,.slice (some ⟨bk,ok,oak⟩) K.length cK),(8,.slice aW W.length cW),(13,i64 i),(14,.pointer (some ⟨b14,0,none⟩)),(15,i64 N),(17,str Wk),(18,str Vk),(19,i64 day),(20,.bool true),(21,.bool true)]) (Wc_loop (fun (k:Nat) m ds h'=>ds=[]/\Ext h4 h'/\h'.get b14=some (.cells [i64 s.venue,i64 s.print,i64 s.pack,i64 s.minute,i64 s.speed,i64 s.worth] 42 false)/\k<=W.length/\AllK m [(2,.pointer (some ⟨b1,0,none⟩)),(5,.slice (some ⟨bk,ok,oak⟩) K.length cK),(8,.slice aW W.length cW),(13,i64 i),(14,.pointer (some ⟨b14,0,none⟩)),(15,i64 N),(17,str Wk),(18,str Vk),(19,i64 day),(20,.bool true),(21,.bool (decide (s.print<0) || (Z.take k).any (lDay s.print s.venue day))),(24,i64 k)]) (fun k=>W.length-k) 0 ?_ ?_) ?_
  ·exact⟨rfl,hE9,hg9,Nat.zero_le _,rfl,rfl,rfl,rfl,rfl,rfl,rfl,rfl,rfl,rfl,(by rw[List.take_zero,List.any_nil,Bool.or_false];rfl),rfl,trivial⟩
  ·clear hE9 hg9 hall
   clear h9
   rintro k m ds h9 ⟨rfl,hE9,hg9,hk,hall⟩
   refine Wc_wf fun hw9=>?_
   generalize hb:(decide (s.print<0) || (Z.take k).any (lDay s.print s.venue day))=bb at *
   refine Wc.le ?_ (Le.kn hall)
   have g1:=hE9.get hg1
   refine zy ?_
   refine Wo_dec rfl rfl rfl rfl (A_lss rfl rfl) (fun h11=>?_) (fun h11=>?_)
   rotate_left
   ·have hk2:k=Z.length:=by omega
    subst hk2
    rw[List.take_length,hX] at hb
    subst hb
    refine zy ?_
    exact⟨rfl,rfl,hE9,hg9,rfl,rfl,rfl,rfl,rfl,rfl,rfl,rfl,rfl,rfl,rfl,trivial⟩
   have hk':k<W.length:=by simpa using h11
   have kl:k<t.loans.length:=by omega
   have hnx:=any_take (f:=lDay s.print s.venue day) (show k<Z.length by omega)
   rw[hZm k hk'] at hnx
   obtain⟨bl,ol,oal,rfl,row,hrow,hma⟩:=m8 k kl
   obtain⟨bc,oc,oac,rfl,hcw⟩:=hI k hk'
   generalize hmk:t.loans[k]=x at *
   generalize hmw:W[k]=u at *
   obtain rfl:=hma
   replace hrow:=hE9.row hrow
   refine zy ?_
   refine Wo_do rfl rfl rfl rfl (A_ix Und.h Tsz.h rfl rfl) ?_
   refine zy ?_
   refine Wo_allocStore rfl rfl Zr.h Tsz.h rfl (fun _=>rfl) rfl rfl rfl fun h12 hE12 hW12 hg12 hn12=>?_
   replace hE9:=hE9.trans hE12
   replace hg9:=hE12.get hg9
   replace g1:=hE12.get g1
   have z1:=hE9.cell hcw
   have hnb:(decide (s.print<0) || (Z.take (k+1)).any (lDay s.print s.venue day))=(bb || lDay s.print s.venue day (x,u)):=by rw[hnx,<-Bool.or_assoc,hb]
   generalize h9.nx=b9 at *
   clear hrow hn12 hE12 hw9
   clear h9
   cases bb
   ·refine zy ?_
    refine Wo_do rfl rfl rfl rfl (A_ix Und.h Tsz.h rfl rfl) ?_
    refine zy ?_
    by_cases f1:u=0
    ·refine Wo_do rfl rfl rfl rfl (A_tt f1 (A_eql rfl rfl)) ?_
     refine zy ?_
     by_cases f2:x.print=s.print
     ·refine Wo_do rfl rfl rfl rfl (A_tt f2 (A_eql rfl rfl)) ?_
      refine zy ?_
      by_cases f3:x.venue=s.venue
      ·refine Wo_do rfl rfl rfl rfl (A_tt f3 (A_eql rfl rfl)) ?_
       refine zy ?_
       by_cases f4:x.days.lo<=day
       ·refine Wo_do rfl rfl rfl rfl (A_tt f4 (A_leq rfl rfl)) ?_
        refine zy ?_
        by_cases f5:day<=x.days.hi
        ·refine Wo_do rfl rfl rfl rfl (A_tt f5 (A_leq rfl rfl)) ?_
         refine zy ?_
         refine⟨k+1,(by show W.length-(k+1)<W.length-k;omega),rfl,hE9,hg9,hk',rfl,rfl,rfl,rfl,rfl,rfl,rfl,rfl,rfl,rfl,?_,rfl,trivial⟩
         rw[hnb,Bool.false_or,show lDay s.print s.venue day (x,u)=true from decide_eq_true ⟨f1,f2,f3,f4,f5⟩];rfl
        ·refine Wo_do rfl rfl rfl rfl (A_ff f5 (A_leq rfl rfl)) ?_
         refine zy ?_
         refine⟨k+1,(by show W.length-(k+1)<W.length-k;omega),rfl,hE9,hg9,hk',rfl,rfl,rfl,rfl,rfl,rfl,rfl,rfl,rfl,rfl,?_,rfl,trivial⟩
         rw[hnb,Bool.false_or,show lDay s.print s.venue day (x,u)=false from decide_eq_false (fun e=>f5 e.2.2.2.2)];rfl
       ·refine Wo_do rfl rfl rfl rfl (A_ff f4 (A_leq rfl rfl)) ?_
        refine zy ?_
        refine⟨k+1,(by show W.length-(k+1)<W.length-k;omega),rfl,hE9,hg9,hk',rfl,rfl,rfl,rfl,rfl,rfl,rfl,rfl,rfl,rfl,?_,rfl,trivial⟩
        rw[hnb,Bool.false_or,show lDay s.print s.venue day (x,u)=false from decide_eq_false (fun e=>f4 e.2.2.2.1)];rfl
      ·refine Wo_do rfl rfl rfl rfl (A_ff f3 (A_eql rfl rfl)) ?_
       refine zy ?_
       refine⟨k+1,(by show W.length-(k+1)<W.length-k;omega),rfl,hE9,hg9,hk',rfl,rfl,rfl,rfl,rfl,rfl,rfl,rfl,rfl,rfl,?_,rfl,trivial⟩
       rw[hnb,Bool.false_or,show lDay s.print s.venue day (x,u)=false from decide_eq_false (fun e=>f3 e.2.2.1)];rfl
     ·refine Wo_do rfl rfl rfl rfl (A_ff f2 (A_eql rfl rfl)) ?_
      refine zy ?_
      refine⟨k+1,(by show W.length-(k+1)<W.length-k;omega),rfl,hE9,hg9,hk',rfl,rfl,rfl,rfl,rfl,rfl,rfl,rfl,rfl,rfl,?_,rfl,trivial⟩
      rw[hnb,Bool.false_or,show lDay s.print s.venue day (x,u)=false from decide_eq_false (fun e=>f2 e.2.1)];rfl
    ·refine Wo_do rfl rfl rfl rfl (A_ff f1 (A_eql rfl rfl)) ?_
     refine zy ?_
     refine⟨k+1,(by show W.length-(k+1)<W.length-k;omega),rfl,hE9,hg9,hk',rfl,rfl,rfl,rfl,rfl,rfl,rfl,rfl,rfl,rfl,?_,rfl,trivial⟩
     rw[hnb,Bool.false_or,show lDay s.print s.venue day (x,u)=false from decide_eq_false (fun e=>f1 e.1)];rfl
   ·refine zy ?_
    refine⟨k+1,(by show W.length-(k+1)<W.length-k;omega),rfl,hE9,hg9,hk',rfl,rfl,rfl,rfl,rfl,rfl,rfl,rfl,rfl,rfl,?_,rfl,trivial⟩
    rw[hnb,Bool.true_or];rfl
  rintro _ m' ds' h9 ⟨rfl,rfl,hE9,hg9,hall⟩
  show Wc _ _ _ _ _ _ _
  refine Wc.le ?_ (Le.kn hall)
  refine zy ?_
  exact⟨day+1,(by show (t.first+(s.minute+N-1) / 1440+1-(day+1)).toNat<(t.first+(s.minute+N-1) / 1440+1-day).toNat;omega),rfl,hE9,hg9,by omega,by omega,rfl,rfl,rfl,rfl,rfl,rfl,rfl,rfl,rfl,trivial⟩
 rintro _ m' ds' h9 ⟨rfl,rfl,hE9,hg9,hall⟩
 show Wc _ _ _ _ _ _ _
 refine Wc.le ?_ (Le.kn hall)
 clear hE5 hg7 g1 hall
 clear h8
 refine zy ?_
 refine Wo_do rfl rfl rfl rfl (A_lss rfl rfl) ?_
 refine zy ?_
 have hY:(decide (s.pack<0) || t.keys.any (kOpen s.pack s.venue s.minute (s.minute+N)))=true:=by
  by_cases hp:s.pack<0
  ·rw[decide_eq_true hp];rfl
  ·rw[hko (by omega),Bool.or_true]
 refine Wc.mono (Q:=fun x m' ds' h'=>x=.exit 8/\ds'=[]/\Ext h4 h'/\h'.get b14=some (.cells [i64 s.venue,i64 s.print,i64 s.pack,i64 s.minute,i64 s.speed,i64 s.worth] 42 false)/\AllK m' [(2,.pointer (some ⟨b1,0,none⟩)),(5,.slice (some ⟨bk,ok,oak⟩) K.length cK),(8,.slice aW W.length cW),(13,i64 i),(14,.pointer (some ⟨b14,0,none⟩)),(15,i64 N),(26,.bool true)]) (Wc_loop (fun (k:Nat) m ds h'=>ds=[]/\Ext h4 h'/\h'.get b14=some (.cells [i64 s.venue,i64 s.print,i64 s.pack,i64 s.minute,i64 s.speed,i64 s.worth] 42 false)/\k<=t.keys.length/\AllK m [(2,.pointer (some ⟨b1,0,none⟩)),(5,.slice (some ⟨bk,ok,oak⟩) K.length cK),(8,.slice aW W.length cW),(13,i64 i),(14,.pointer (some ⟨b14,0,none⟩)),(15,i64 N),(26,.bool (decide (s.pack<0) || (t.keys.take k).any (kOpen s.pack s.venue s.minute (s.minute+N)))),(27,i64 k)]) (fun k=>t.keys.length-k) 0 ?_ ?_) ?_
 ·exact⟨rfl,hE9,hg9,Nat.zero_le _,rfl,rfl,rfl,rfl,rfl,rfl,(by rw[List.take_zero,List.any_nil,Bool.or_false];rfl),rfl,trivial⟩
 ·clear hE9 hg9
  clear h9
  rintro k m ds h9 ⟨rfl,hE9,hg9,hk,hall⟩
  refine Wc_wf fun hw9=>?_
  generalize hb:(decide (s.pack<0) || (t.keys.take k).any (kOpen s.pack s.venue s.minute (s.minute+N)))=bb at *
  refine Wc.le ?_ (Le.kn hall)
  have g1:=hE9.get hg1
  refine zy ?_
  refine Wo_dec rfl rfl rfl rfl (A_lss rfl rfl) (fun h11=>?_) (fun h11=>?_)
  rotate_left
  ·have hk2:k=t.keys.length:=by omega
   subst hk2
   rw[List.take_length,hY] at hb
   subst hb
   refine zy ?_
   exact⟨rfl,rfl,hE9,hg9,rfl,rfl,rfl,rfl,rfl,rfl,rfl,trivial⟩
  have hk':k<t.keys.length:=by simpa using h11
  obtain⟨bl,ol,oal,rfl,row,hrow,hma⟩:=m7 k hk'
  have hnx:=any_take (f:=kOpen s.pack s.venue s.minute (s.minute+N)) hk'
  generalize hmk:t.keys[k]=x at *
  obtain rfl:=hma
  replace hrow:=hE9.row hrow
  refine zy ?_
  refine Wo_do rfl rfl rfl rfl (A_ix Und.h Tsz.h rfl rfl) ?_
  refine zy ?_
  refine Wo_allocStore rfl rfl Zr.h Tsz.h rfl (fun _=>rfl) rfl rfl rfl fun h12 hE12 hW12 hg12 hn12=>?_
  replace hE9:=hE9.trans hE12
  replace hg9:=hE12.get hg9
  replace g1:=hE12.get g1
  have hnb:(decide (s.pack<0) || (t.keys.take (k+1)).any (kOpen s.pack s.venue s.minute (s.minute+N)))=(bb || kOpen s.pack s.venue s.minute (s.minute+N) x):=by rw[hnx,<-Bool.or_assoc,hb]
  generalize h9.nx=b9 at *
  clear hrow hn12 hE12 hw9
  clear h9
  cases bb
  ·refine zy ?_
   by_cases f1:x.pack=s.pack
   ·refine Wo_do rfl rfl rfl rfl (A_tt f1 (A_eql rfl rfl)) ?_
    refine zy ?_
    by_cases f2:x.venue=s.venue
    ·refine Wo_do rfl rfl rfl rfl (A_tt f2 (A_eql rfl rfl)) ?_
     refine zy ?_
     by_cases f3:x.window.lo<=s.minute
     ·refine Wo_do rfl rfl rfl rfl (A_tt f3 (A_leq rfl rfl)) ?_
      refine zy ?_
      by_cases f4:s.minute+N<=x.window.hi
      ·refine Wo_do rfl rfl rfl rfl (A_tt f4 (A_leq rfl rfl)) ?_
       refine zy ?_
       refine⟨k+1,(by show t.keys.length-(k+1)<t.keys.length-k;omega),rfl,hE9,hg9,hk',rfl,rfl,rfl,rfl,rfl,rfl,?_,rfl,trivial⟩
       rw[hnb,Bool.false_or,show kOpen s.pack s.venue s.minute (s.minute+N) x=true from decide_eq_true ⟨f1,f2,f3,f4⟩];rfl
      ·refine Wo_do rfl rfl rfl rfl (A_ff f4 (A_leq rfl rfl)) ?_
       refine zy ?_
       refine⟨k+1,(by show t.keys.length-(k+1)<t.keys.length-k;omega),rfl,hE9,hg9,hk',rfl,rfl,rfl,rfl,rfl,rfl,?_,rfl,trivial⟩
       rw[hnb,Bool.false_or,show kOpen s.pack s.venue s.minute (s.minute+N) x=false from decide_eq_false (fun e=>f4 e.2.2.2)];rfl
     ·refine Wo_do rfl rfl rfl rfl (A_ff f3 (A_leq rfl rfl)) ?_
      refine zy ?_
      refine⟨k+1,(by show t.keys.length-(k+1)<t.keys.length-k;omega),rfl,hE9,hg9,hk',rfl,rfl,rfl,rfl,rfl,rfl,?_,rfl,trivial⟩
      rw[hnb,Bool.false_or,show kOpen s.pack s.venue s.minute (s.minute+N) x=false from decide_eq_false (fun e=>f3 e.2.2.1)];rfl
    ·refine Wo_do rfl rfl rfl rfl (A_ff f2 (A_eql rfl rfl)) ?_
     refine zy ?_
     refine⟨k+1,(by show t.keys.length-(k+1)<t.keys.length-k;omega),rfl,hE9,hg9,hk',rfl,rfl,rfl,rfl,rfl,rfl,?_,rfl,trivial⟩
     rw[hnb,Bool.false_or,show kOpen s.pack s.venue s.minute (s.minute+N) x=false from decide_eq_false (fun e=>f2 e.2.1)];rfl
   ·refine Wo_do rfl rfl rfl rfl (A_ff f1 (A_eql rfl rfl)) ?_
    refine zy ?_
    refine⟨k+1,(by show t.keys.length-(k+1)<t.keys.length-k;omega),rfl,hE9,hg9,hk',rfl,rfl,rfl,rfl,rfl,rfl,?_,rfl,trivial⟩
    rw[hnb,Bool.false_or,show kOpen s.pack s.venue s.minute (s.minute+N) x=false from decide_eq_false (fun e=>f1 e.1)];rfl
  ·refine zy ?_
   refine⟨k+1,(by show t.keys.length-(k+1)<t.keys.length-k;omega),rfl,hE9,hg9,hk',rfl,rfl,rfl,rfl,rfl,rfl,?_,rfl,trivial⟩
   rw[hnb,Bool.true_or];rfl
 rintro _ m' ds' h9 ⟨rfl,rfl,hE9,hg9,hall⟩
 show Wc _ _ _ _ _ _ _
 refine Wc.le ?_ (Le.kn hall)
 have g1:=hE9.get hg1
 have z2:=hE9.cell y2
 refine zy ?_
 by_cases hp:0<=s.pack
 ·rw[hdg (by omega)] at z2
  refine Wo_do rfl rfl rfl rfl (A_tt hp (A_geq rfl rfl)) ?_
  refine zy ?_
  refine Wo_do rfl rfl rfl rfl (A_indexAddr (k:=s.venue.toNat) Und.h Tsz.h rfl rfl (by omega) (by omega)) ?_
  refine zy ?_
  exact⟨i+1,(by show K.length-(i+1)<K.length-i;omega),rfl,hE9,hi',rfl,rfl,rfl,rfl,trivial⟩
 ·refine Wo_do rfl rfl rfl rfl (A_ff hp (A_geq rfl rfl)) ?_
  refine zy ?_
  exact⟨i+1,(by show K.length-(i+1)<K.length-i;omega),rfl,hE9,hi',rfl,rfl,rfl,rfl,trivial⟩
end Go.Dw
/- L8: ScreenAlone: its contract, for any task and shows, cut at any place. -/
namespace Go.Dw
open Go Go.Dx Go.Proofs
set_option maxRecDepth 100000
theorem play_take (t:ScT)(l:List ScS)(n:Nat):(playS t (l.take n)).2=(playS t l).2.take n:=play_prefix t l n
theorem dist_false {t:ScT}{l:List ScS}{i k:Nat}(hi:i<(playS t l).1.length)(hk':k<(playS t l).1.length)(hk:k<i):distB t ((playS t l).1[i]) ((playS t l).1[k])=false:=by
 have h:=(play_kept t l).2
 rw[distB_comm]
 exact List.pairwise_iff_getElem.1 h k i hk' hi hk
theorem play_kept_listed {t:ScT}{l:List ScS}(h:listedS t l=0):listedS t (playS t l).1=0:=by
 have he1:errSc t=0:=Classical.byContradiction fun e=>e (by rw[<-listed_bad (l:=l) e];exact h)
 obtain⟨h1,h2⟩:=allErr_ok (by rw[<-listed_ok he1];exact h)
 rw[listed_ok he1]
 have hn:=(play_len t l).2.1
 exact allErr_no (by omega) fun j hj=>h2 _ ((play_len t l).2.2 _ (List.getElem_mem hj)).1
theorem take_listed {t:ScT}{l:List ScS}(h:listedS t l=0)(n:Nat):listedS t (l.take n)=0:=by
 have he1:errSc t=0:=Classical.byContradiction fun e=>e (by rw[<-listed_bad (l:=l) e];exact h)
 obtain⟨h1,h2⟩:=allErr_ok (by rw[<-listed_ok he1];exact h)
 rw[listed_ok he1]
 exact allErr_no (by rw[List.length_take];omega) fun j hj=>h2 _ (List.mem_of_mem_take (List.getElem_mem hj))
set_option maxHeartbeats 4000000 in
theorem screenAlone_sv {tc:List Value}{t:ScT}{l:List ScS}{al:Option Addr}{cl:Nat}{f:Int}{h:Heap}(ht:ScTAt h tc t)(hT:t.Fit)(hl:RowsAt 6 ScSR h al l)(hlF:∀s∈l,s.Fit)(hL:Len l)(hTk:TakeOk Tryz.prog 42 al l.length cl)(hf1:0<=f)(hf2:f<256)(hTb:TabAt spTab h):Sv Tryz.prog 12 [.agg ⟨tc⟩,.slice al l.length cl,.int .u8 f] h (RetP fun v h'=>v=.bool true/\Ext h h'):=by
 have ht0:=ht
 obtain⟨xl,cxl,at',ct,a1,c1',a2,c2',a3,c3',a4,c4',a5,c5',a6,c6',rfl,-⟩:=ht
 refine Sv_wf fun hw=>?_
 refine Sv_enter Tryz.func12 rfl (by rw[Tryz.ntmps12];rfl) ?_;show Wc Tryz.prog ⟨12,129,none⟩ _ _ _ _ _
 refine zy ?_
 refine Wo_box rfl rfl rfl fun h1 hE hW1 hg1 hn1=>?_
 generalize h.nx=b1 at *
 clear hW1 hn1
 refine zy ?_
 refine Wo_callr rfl rfl rfl rfl rfl Bod.h rfl rfl (scPlay_sv (ht0.ext hE) hT (RowsAt.ext (R:=ScSR) (fun x _=>x) hl hE) hlF hL) ?_
 rintro v h2 ⟨hE2,hv⟩
 replace hg1:=hE2.get hg1
 replace hE:=hE.trans hE2
 clear hE2
 rcases hv with ⟨he,rfl⟩|⟨he,va,vb,rfl,hA,hB⟩
 ·generalize hn:listedS t l=n at *
  refine zy ?_
  refine Wo_callE rfl rfl rfl rfl rfl Bod.h rfl rfl (refScCheck_sv (ht0.ext hE) hT) fun h4 hE4=>?_
  replace hE:=hE.trans hE4
  refine zy ?_
  refine Wo_do rfl rfl rfl rfl (A_tt he (A_neq rfl rfl)) ?_
  refine zy ?_
  refine Wo_do rfl rfl rfl rfl (A_tt rfl (A_eql rfl rfl)) ?_
  refine zy ?_
  refine Wo_callV rfl rfl rfl rfl rfl Bod.h rfl rfl (awake_sv (hTb.ext hE)) ?_
  refine zy ?_
  exact Wc_ret (Lv_ret rfl ⟨rfl,hE⟩)
 have he1:errSc t=0:=Classical.byContradiction fun e=>e (by rw[<-listed_bad (l:=l) e];exact he)
 have hO:=sc_ok he1
 obtain⟨hl40,hsh⟩:=allErr_ok (by rw[<-listed_ok he1];exact he)
 have hKn:(playS t l).1.length<=40:=Nat.le_trans (play_len t l).2.1 hl40
 have hWl:(playS t l).2.length=l.length:=(play_len t l).1
 have hKm:=fun s hs=>((play_len t l).2.2 s hs).1
 have hdf:=@dist_false t l
 have hKe:=play_kept_listed he
 have hKa:=play_again t l
 have hpt:=play_take t l
 obtain⟨aA,cA,rfl,hAr⟩:=shRows_at hA
 obtain⟨aB,rfl,hBt⟩:=FreshSl.takeOk (P:=Tryz.prog) hB Tsz.h
 obtain⟨aB',eB,-,hBr⟩:=FreshSl.list (enc:=i64) hB
 obtain rfl:aB=aB':=by
  simp only[Value.slice.injEq] at eB
  exact eB.1
 clear eB hA hB
 generalize (playS t l).1=K at *
 generalize (playS t l).2=W at *
 refine zy ?_
 refine Wo_callE rfl rfl rfl rfl rfl Bod.h rfl rfl (refScCheck_sv (ht0.ext hE) hT) fun h4 hE4=>?_
 replace hE:=hE.trans hE4
 replace hg1:=hE4.get hg1
 replace hAr:=RowsAt.ext (R:=ScSR) (fun x _=>x) hAr hE4
 replace hBr:=hBr.ext hE4
 clear hE4
 refine zy ?_
 refine Wo_do rfl rfl rfl rfl (A_ff (by exact fun e=>e rfl) (A_neq rfl rfl)) ?_
 refine zy ?_
 refine Wo_do rfl rfl rfl rfl (A_ff (show ¬(checkSc t).2.2≠0 from fun e=>e he1) (A_neq rfl rfl)) ?_
 refine zy ?_
 refine Wc.mono (Q:=fun z m' ds' h'=>z=.exit 0/\ds'=[]/\Ext h4 h'/\AllK m' [(1,.slice al l.length cl),(2,.int .u8 f),(3,.pointer (some ⟨b1,0,none⟩)),(7,.slice aA K.length cA),(8,.slice aB W.length W.length)]) (Wc_loop (fun (i:Nat) m ds h'=>ds=[]/\Ext h4 h'/\i<=K.length/\AllK m [(1,.slice al l.length cl),(2,.int .u8 f),(3,.pointer (some ⟨b1,0,none⟩)),(7,.slice aA K.length cA),(8,.slice aB W.length W.length),(13,i64 i)]) (fun i=>K.length-i) 0 ?_ ?_) ?_
 ·exact⟨rfl,Ext.refl _,Nat.zero_le _,rfl,rfl,rfl,rfl,rfl,rfl,trivial⟩
 ·rintro i m ds h5 ⟨rfl,hE5,hi,hall⟩
  refine Wc.le ?_ (Le.kn hall)
  have k1:=hE5.get hg1
  refine zy ?_
  refine Wo_dec rfl rfl rfl rfl (A_lss rfl rfl) (fun h6=>?_) (fun h6=>?_)
  rotate_left
  ·refine zy ?_
   exact⟨rfl,rfl,hE5,rfl,rfl,rfl,rfl,rfl,trivial⟩
  have hi':i<K.length:=by simpa using h6
  obtain⟨bk,ok,oak,rfl,row,hrow,hr⟩:=hAr i hi'
  have hs0:=hsh _ (hKm _ (List.getElem_mem hi'))
  have hsF:=hlF _ (hKm _ (List.getElem_mem hi'))
  have hdi:=fun k (hk':k<K.length) (hk:k<i)=>hdf hi' hk' hk
  generalize K[i]=s at *
  obtain rfl:=hr
  have hrow5:=hE5.row hrow
  have hlo:=refScLong_sv (ht0.ext (hE.trans hE5)) hT hsF (rfl:ScSR h5 _ s)
  rw[longV_eq he1 hs0] at hlo
  generalize longS t s=N at *
  refine zy ?_
  refine Wc_draw hmix [0,0,0,6,14,31,63,127,127,255,1023] [0,1,2,3,4] (some 5) [([6,7,8],(some 9)),([],(some 10)),([],none)] (by kernel_rfl) (by kernel_rfl) ?_
  refine z_r ?_;refine z_m ?_;refine z_m ?_;refine z_i ?_;refine z_r ?_
  refine Wp_eff [0,1,2,3,4] (by kernel_rfl) rfl (Stl_nil rfl) rfl nb rfl (W1_callE rfl rfl rfl rfl rfl Bod.h hlo (fun h7 hE7=>?_))
  have k17:=hE7.get k1
  have hrow7:=hE7.row hrow5
  refine z_m ?_;refine z_e ?_;refine z_e ?_
  refine Wp_eff [0,1,2,3,4,5,6,7] (by kernel_rfl) rfl (Stl_nil rfl) rfl nb rfl (W1_op rfl rfl (A_assign rfl) ?_)
  refine Wp_eff [0,1,2,3,4,5,6,7,8,9] (by kernel_rfl) rfl (by refine t_e 8 ?_;exact Stl_nil rfl) rfl nb rfl (W1_op rfl rfl (A_assign rfl) ?_)
  refine Wp_end (Stl_nil rfl) nb' ?_
  have hE57:=hE5.trans hE7
  clear k1 hrow5 hE5 hE7 hlo hall
  clear h5
  refine zy ?_
  refine Wo_do rfl rfl rfl rfl (A_ff (by exact fun e=>e rfl) (A_neq rfl rfl)) ?_
  refine zy ?_
  refine Wc.mono (Q:=fun z m' ds' h'=>z=.exit 2/\ds'=[]/\Ext h4 h'/\AllK m' [(1,.slice al l.length cl),(2,.int .u8 f),(3,.pointer (some ⟨b1,0,none⟩)),(7,.slice (some ⟨bk,ok,oak⟩) K.length cA),(8,.slice aB W.length W.length),(13,i64 i)]) (Wc_loop (fun (k:Nat) m ds h'=>ds=[]/\Ext h4 h'/\k<=i/\AllK m [(1,.slice al l.length cl),(2,.int .u8 f),(3,.pointer (some ⟨b1,0,none⟩)),(7,.slice (some ⟨bk,ok,oak⟩) K.length cA),(8,.slice aB W.length W.length),(13,i64 i),(16,i64 k)]) (fun k=>i-k) 0 ?_ ?_) ?_
  ·exact⟨rfl,hE57,Nat.zero_le _,rfl,rfl,rfl,rfl,rfl,rfl,rfl,trivial⟩
  ·clear hE57 k17 hrow7
   clear h7
   rintro k m ds h7 ⟨rfl,hE7,hk,hall⟩
   refine Wc.le ?_ (Le.kn hall)
   have k17:=hE7.get hg1
   have hrow7:=hE7.row hrow
   refine zy ?_
   refine Wo_dec rfl rfl rfl rfl (A_lss rfl rfl) (fun h8=>?_) (fun h8=>?_)
   rotate_left
   ·refine zy ?_
    exact⟨rfl,rfl,hE7,rfl,rfl,rfl,rfl,rfl,rfl,trivial⟩
   have hk':k<i:=by simpa using h8
   have hkK:k<K.length:=by omega
   obtain⟨bk2,ok2,oak2,ek2,row2,hrow2,hr2⟩:=hAr k hkK
   cases ek2
   have hy0:=hsh _ (hKm _ (List.getElem_mem hkK))
   have hdk:=hdi k hkK hk'
   generalize K[k]=y at *
   obtain rfl:=hr2
   replace hrow2:=hE7.row hrow2
   have hdis:=refDisturb_sv (ht0.ext (hE.trans hE7)) hO hs0 hy0 (rfl:ScSR h7 _ s) (rfl:ScSR h7 _ y)
   rw[hdk] at hdis
   refine zy ?_
   refine Wc_draw hmix [0,0,0,6,14,0,0,96,224,511] [0,1,2,3,4,5,6,7,8] (some 9) [([],none)] (by kernel_rfl) (by kernel_rfl) ?_
   refine z_r ?_;refine z_m ?_;refine z_m ?_;refine z_i ?_;refine z_r ?_;refine z_m ?_;refine z_m ?_;refine z_i ?_;refine z_r ?_
   refine Wp_eff [0,1,2,3,4,5,6,7,8] (by kernel_rfl) rfl (Stl_nil rfl) rfl nb rfl (W1_callE rfl rfl rfl rfl rfl Bod.h hdis (fun h9 hE9=>?_))
   have k19:=hE9.get k17
   have hrow9:=hE9.row hrow7
   have hrow29:=hE9.row hrow2
   refine Wp_end (Stl_nil rfl) nb' ?_
   refine zy ?_
   exact⟨k+1,(by show i-(k+1)<i-k;omega),rfl,hE7.trans hE9,hk',rfl,rfl,rfl,rfl,rfl,rfl,rfl,trivial⟩
  rintro _ m' ds' h9 ⟨rfl,rfl,hE9,hall⟩
  show Wc _ _ _ _ _ _ _
  refine Wc.le ?_ (Le.kn hall)
  refine zy ?_
  exact⟨i+1,(by show K.length-(i+1)<K.length-i;omega),rfl,hE9,hi',rfl,rfl,rfl,rfl,rfl,rfl,trivial⟩
 rintro _ m' ds' h5 ⟨rfl,rfl,hE5,hall⟩
 show Wc _ _ _ _ _ _ _
 refine Wc.le ?_ (Le.kn hall)
 replace hE:=hE.trans hE5
 replace hg1:=hE5.get hg1
 replace hAr:=RowsAt.ext (R:=ScSR) (fun x _=>x) hAr hE5
 replace hBr:=hBr.ext hE5
 clear hE5 hall
 refine zy ?_
 refine Wo_callr rfl rfl rfl rfl rfl Bod.h rfl rfl (scPlay_sv (l:=K) (ht0.ext hE) hT hAr (fun s hs=>hlF s (hKm s hs)) (by omega)) ?_
 rintro v h6 ⟨hE6,⟨hbad,_⟩|⟨_,vc,vd,rfl,hC,-⟩⟩
 ·exact absurd hKe hbad
 rw[hKa] at hC
 obtain⟨aC,cC,rfl,hCr⟩:=shRows_at hC
 replace hE:=hE.trans hE6
 replace hg1:=hE6.get hg1
 replace hAr:=RowsAt.ext (R:=ScSR) (fun x _=>x) hAr hE6
 replace hBr:=hBr.ext hE6
 clear hC hE6
 have hwrap:IntKind.i64.wrap f=f:=IntWalk.i64_in _ (by omega)
 have hn0:0<=f.tmod ((l.length:Int)+1):=Int.tmod_nonneg _ hf1
 have hn1:f.tmod ((l.length:Int)+1)<(l.length:Int)+1:=Int.tmod_lt_of_pos _ (by omega)
 obtain⟨n,hn⟩:∃n:Nat,f.tmod ((l.length:Int)+1)=n:=⟨_,(Int.toNat_of_nonneg hn0).symm⟩
 have hnl:n<=l.length:=by omega
 refine zy ?_
 refine Wo_do rfl rfl rfl rfl (A_convV ⟨_,Und.h⟩ Und.h rfl hwrap) ?_
 refine zy ?_
 refine Wo_do rfl rfl rfl rfl (A_rem rfl rfl (by omega)) ?_
 rw[hn]
 refine zy ?_
 have hlh:=RowsAt.ext (R:=ScSR) (fun x _=>x) hl hE
 obtain⟨cT,hTA⟩:=A_takeL (t:=80) (kj:=.i64) Und.h Tsz.h hTk hnl
 have hpl:=scPlay_sv (l:=l.take n) (al:=al) (cl:=cT) (ht0.ext hE) hT (hlh.take n) (fun s hs=>hlF s (List.mem_of_mem_take hs)) (by show (l.take n).length<_;rw[List.length_take];omega)
 have htl:(l.take n).length=n:=by rw[List.length_take];omega
 rw[htl] at hpl
 refine Wc_draw hmix [0,0,0,6,15,31,63,63,63,127,767,2047] [0,1,2,3] (some 4) [([5,6,7,8],(some 9)),([],(some 10)),([],(some 11)),([],none)] (by kernel_rfl) (by kernel_rfl) ?_
 refine z_r ?_;refine z_m ?_;refine z_m ?_;refine Wp_pure rfl rfl rfl rfl rfl (fun _=>hTA rfl rfl) ?_
 refine Wp_eff [0,1,2,3] (by kernel_rfl) rfl (Stl_nil rfl) rfl nb rfl (W1_callR rfl rfl rfl rfl rfl Bod.h hpl (fun v h7 hv=>?_))
 obtain⟨hE7,⟨hbad,_⟩|⟨_,ve,vg,rfl,-,hG⟩⟩:=hv
 ·exact absurd (take_listed he n) hbad
 have k17:=hE7.get hg1
 refine z_m ?_;refine z_e ?_;refine z_e ?_;refine z_e ?_
 refine Wp_eff [0,1,2,3,4,5,6] (by kernel_rfl) rfl (Stl_nil rfl) rfl nb rfl (W1_op rfl rfl (A_assign rfl) ?_)
 refine Wp_eff [0,1,2,3,4,5,6,7,9] (by kernel_rfl) rfl (by refine t_e 8 ?_;refine t_e 7 ?_;exact Stl_nil rfl) rfl nb rfl (W1_op rfl rfl (A_assign rfl) ?_)
 refine Wp_eff [0,1,2,3,4,5,6,7,8,9,10] (by kernel_rfl) rfl (by refine t_e 8 ?_;exact Stl_nil rfl) rfl nb rfl (W1_op rfl rfl (A_assign rfl) ?_)
 refine Wp_end (Stl_nil rfl) nb' ?_
 rw[hpt n] at hG
 have hWt:(W.take n).length=n:=by rw[List.length_take];omega
 obtain⟨aG,rfl,-,hGr⟩:=FreshSl.list (enc:=i64) hG
 replace hE:=hE.trans hE7
 replace hAr:=RowsAt.ext (R:=ScSR) (fun x _=>x) hAr hE7
 replace hCr:=RowsAt.ext (R:=ScSR) (fun x _=>x) hCr hE7
 replace hBr:=hBr.ext hE7
 obtain⟨cU,hTU⟩:=A_takeL (t:=35) (n:=n) (kj:=.i64) Und.h Tsz.h hBt (by omega)
 refine zy ?_
 refine Wo_do rfl rfl rfl rfl (A_tt rfl (A_eql rfl rfl)) ?_
 refine zy ?_
 refine Wo_do rfl rfl rfl rfl (A_tt rfl (A_eql rfl rfl)) ?_
 refine zy ?_
 refine Wo_callV rfl rfl rfl rfl rfl Bod.h rfl rfl (refShows_sv hCr hAr (by omega) (by omega)) ?_
 rw[decide_eq_true rfl]
 refine zy ?_
 refine Wo_do rfl rfl rfl rfl (A_tt (show (W.length:Int)=(l.length:Int) by rw[hWl]) (A_eql rfl rfl)) ?_
 refine zy ?_
 refine Wo_do rfl rfl rfl rfl (hTU rfl rfl) ?_
 refine zy ?_
 have hBt':=hBr.take n
 have herr:=refErrors_sv (ca:=(W.take n).length) (cb:=cU) hGr hBt' (by show (W.take n).length<_;omega) (by show (W.take n).length<_;omega)
 rw[hWt] at herr
 rw[hWt]
 refine Wo_callV rfl rfl rfl rfl rfl Bod.h rfl rfl herr ?_
 rw[decide_eq_true rfl]
 refine zy ?_
 refine Wo_callV rfl rfl rfl rfl rfl Bod.h rfl rfl (awake_sv (hTb.ext hE)) ?_
 refine zy ?_
 exact Wc_ret (Lv_ret rfl ⟨rfl,hE⟩)
end Go.Dw
