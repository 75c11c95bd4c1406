/- H1: contracts: screen.up, a show in memory, enter. -/
import Derived.Laws.StructEq
import Derived.Test.YtfgeelpahicelaaGreatDoorUG2
import Derived.Test.YtfgeelpahicelaaGreatDoorUG9
set_option linter.unusedVariables false
set_option linter.unusedSimpArgs false
namespace Go.Dw
open Go Go.Dx Go.Proofs
set_option maxRecDepth 100000
theorem upS_rng {a b:Int}(ha:0<=a)(hb:1<=b):0<=upS a b/\upS a b<=a+b:=by
 unfold upS
 have h1:=Int.ediv_nonneg (show 0<=a+b-1 by omega) (show 0<=b by omega)
 have h2:=Int.ediv_le_self b (show 0<=a+b-1 by omega)
 omega
theorem upS_tdiv {a b:Int}(ha:0<=a)(hb:1<=b):(a+b-1).tdiv b=upS a b:=Int.tdiv_eq_ediv_of_nonneg (by omega)
theorem day_tdiv {a:Int}(ha:0<=a):a.tdiv 1440=a / 1440:=Int.tdiv_eq_ediv_of_nonneg ha
theorem up_sv {a b:Int}(ha:0<=a)(ha':a<=1000000000)(hb:1<=b)(hb':b<=10000)(h:Heap):Sv Tryz.prog 141 [i64 a,i64 b] h (RetP fun v h'=>v=i64 (upS a b)/\h'=h):=by
 have e:=upS_tdiv ha hb
 have hr:=upS_rng ha hb
 refine Sv_enter Tryz.func141 rfl (by rw[Tryz.ntmps141];rfl) ?_;show Wc Tryz.prog ⟨141,11,none⟩ _ _ _ _ _
 refine zy ?_
 refine Wo_do rfl rfl rfl rfl (A_quo rfl rfl (by omega) e (by omega) (by omega)) ?_
 refine zy ?_
 exact Wc_ret (Lv_ret rfl ⟨rfl,rfl⟩)
theorem refUp_sv {a b:Int}(ha:0<=a)(ha':a<=1000000000)(hb:1<=b)(hb':b<=10000)(h:Heap):Sv Tryz.prog 142 [i64 a,i64 b] h (RetP fun v h'=>v=i64 (upS a b)/\h'=h):=by
 have e:=upS_tdiv ha hb
 have hr:=upS_rng ha hb
 refine Sv_enter Tryz.func142 rfl (by rw[Tryz.ntmps142];rfl) ?_;show Wc Tryz.prog ⟨142,11,none⟩ _ _ _ _ _
 refine zy ?_
 refine Wo_do rfl rfl rfl rfl (A_quo rfl rfl (by omega) e (by omega) (by omega)) ?_
 refine zy ?_
 exact Wc_ret (Lv_ret rfl ⟨rfl,rfl⟩)
def shRow (t:ScT)(s:ScS)(bH:Nat):List Value:=[i64 s.venue,i64 s.print,i64 s.pack,i64 s.minute,i64 s.speed,i64 s.worth,.pointer (some ⟨bH,0,none⟩),str (workS t s),str (versS t s),
 str (venAt t s).name,i64 (venAt t s).land,i64 (venAt t s).proj,i64 (venAt t s).speeds.lo,i64 (venAt t s).speeds.hi,i64 (venAt t s).change,i64 (venAt t s).spool,i64 (venAt t s).turn,.bool (venAt t s).digital,i64 (endS t s),i64 (daysS t s).lo,i64 (daysS t s).hi]
def ShowAt (h:Heap)(b bH:Nat)(t:ScT)(s:ScS):Prop:=h.get b=some (.cells (shRow t s bH) 156 false)
theorem ShowAt.ext {h h':Heap}{b bH:Nat}{t:ScT}{s:ScS}(a:ShowAt h b bH t s)(he:Ext h h'):ShowAt h' b bH t s:=he.get a
theorem Wc_add {P:Program}{fr:Fr}{c:Code}{m:Mem}{ds:List ADef}{h:Heap}{Q:CQ}{o:AO}(hw:WF h)(k:∀h2,Ext h h2->WF h2->h2.get h.nx=some o->Wc P fr c m ds h2 Q):Wc P fr c m ds (h.add o) Q :=
 k _ (Ext.add hw o) (hw.add o) Heap.get_add_same
theorem ven_row {h:Heap}{a:Option Addr}{t:ScT}(m3:RowsAt 9 ScVR h a t.venues){s:ScS}(h0:0<=s.venue)(h1:s.venue<t.venues.length):∃b o oa,a=some ⟨b,o,oa⟩/\rowAt h b (o+s.venue.toNat*9) 9=some [str (venAt t s).name,i64 (venAt t s).land,i64 (venAt t s).proj,i64 (venAt t s).speeds.lo,i64 (venAt t s).speeds.hi,i64 (venAt t s).change,i64 (venAt t s).spool,i64 (venAt t s).turn,.bool (venAt t s).digital]:=by
 obtain⟨b,o,oa,e,row,hrow,hr⟩:=m3 s.venue.toNat (by omega)
 obtain rfl:=hr
 have:venAt t s=t.venues[s.venue.toNat]:=by unfold venAt;rw[List.getD_eq_getElem?_getD,List.getElem?_eq_getElem (by omega)];rfl
 rw[this]
 exact⟨b,o,oa,e,hrow⟩
theorem pr_row {h:Heap}{a:Option Addr}{t:ScT}(m5:RowsAt 7 ScPR h a t.prints){s:ScS}(h0:0<=s.print)(h1:s.print<t.prints.length):∃b o oa,a=some ⟨b,o,oa⟩/\∃ap cp,rowAt h b (o+s.print.toNat*7) 7=some [str (prAt t s).name,str (prAt t s).work,str (prAt t s).version,.slice ap (prAt t s).reels.length cp,i64 (prAt t s).speeds.lo,i64 (prAt t s).speeds.hi,i64 (prAt t s).land]/\IntsAt h ap (prAt t s).reels:=by
 obtain⟨b,o,oa,e,row,hrow,ap,cp,hr,hI⟩:=m5 s.print.toNat (by omega)
 subst hr
 have:prAt t s=t.prints[s.print.toNat]:=by unfold prAt;rw[List.getD_eq_getElem?_getD,List.getElem?_eq_getElem (by omega)];rfl
 rw[this]
 exact⟨b,o,oa,e,ap,cp,hrow,hI⟩
theorem pk_row {h:Heap}{a:Option Addr}{t:ScT}(m6:RowsAt 5 ScPkR h a t.packs){s:ScS}(h0:0<=s.pack)(h1:s.pack<t.packs.length):∃b o oa,a=some ⟨b,o,oa⟩/\rowAt h b (o+s.pack.toNat*5) 5=some [str (pkAt t s).name,str (pkAt t s).work,str (pkAt t s).version,i64 (pkAt t s).frames,i64 (pkAt t s).speed]:=by
 obtain⟨b,o,oa,e,row,hrow,hr⟩:=m6 s.pack.toNat (by omega)
 obtain rfl:=hr
 have:pkAt t s=t.packs[s.pack.toNat]:=by unfold pkAt;rw[List.getD_eq_getElem?_getD,List.getElem?_eq_getElem (by omega)];rfl
 rw[this]
 exact⟨b,o,oa,e,hrow⟩
theorem shownErr_pair {t:ScT}{s:ScS}(c1:¬(s.venue<0\/(t.venues.length:Int)-1<s.venue))(c2:decide (s.print = -1)=decide (s.pack = -1)):shownErr t s=2:=by
 unfold shownErr;rw[if_neg c1,if_pos (by rwa [decide_eq_decide] at c2)]
theorem shownErr_out {t:ScT}{s:ScS}(c1:¬(s.venue<0\/(t.venues.length:Int)-1<s.venue))(c2:¬decide (s.print = -1)=decide (s.pack = -1))(c3:(s.print ≠ -1/\(s.print<0\/(t.prints.length:Int)-1<s.print))\/(s.pack ≠ -1/\(s.pack<0\/(t.packs.length:Int)-1<s.pack))):shownErr t s=4:=by
 unfold shownErr;rw[if_neg c1,if_neg (by rwa [decide_eq_decide] at c2),if_pos c3]
theorem shownErr_rng {t:ScT}{s:ScS}(c1:¬(s.venue<0\/(t.venues.length:Int)-1<s.venue))(c2:¬decide (s.print = -1)=decide (s.pack = -1))(c3:¬((s.print ≠ -1/\(s.print<0\/(t.prints.length:Int)-1<s.print))\/(s.pack ≠ -1/\(s.pack<0\/(t.packs.length:Int)-1<s.pack)))):shownErr t s=if (s.minute<0\/57600<s.minute)\/(s.speed<1\/60<s.speed)\/(s.worth<0\/1000000<s.worth) then 7 else 0:=by
 unfold shownErr;rw[if_neg c1,if_neg (by rwa [decide_eq_decide] at c2),if_neg c3]
def EnterR (t:ScT)(s:ScS)(bH:Nat)(h:Heap)(v:Value)(h':Heap):Prop:=Ext h h'/\((¬shownErr t s=0/\v=.tuple ⟨[.pointer none,i64 (shownErr t s)]⟩)\/(shownErr t s=0/\∃b,v=.tuple ⟨[.pointer (some ⟨b,0,none⟩),i64 0]⟩/\ShowAt h' b bH t s/\h.nx<=b))
theorem enter_err {t:ScT}{s:ScS}{bH:Nat}{h h':Heap}{e:Int}(he:shownErr t s=e)(h0:e≠0)(hE:Ext h h'):EnterR t s bH h (.tuple ⟨[.pointer none,i64 e]⟩) h':=⟨hE,.inl ⟨by rw[he];exact h0,by rw[he]⟩⟩
theorem fill21 (x0 x1 x2 x3 x4 x5:Value)(a:Option Addr)(v0 v1 v2 v3 v4 v5 v6 v7 v8:Value) :
  Instr.fill ([(0,6),(6,1),(7,1),(8,1),(9,9),(18,1),(19,2)].toArray[·]?) (Value.agg ⟨[i64 0,i64 0,i64 0,i64 0,i64 0,i64 0,.pointer none,str [],str [],str [],i64 0,i64 0,i64 0,i64 0,i64 0,i64 0,i64 0,.bool false,i64 0,i64 0,i64 0]⟩).cells [(0,.agg ⟨[x0,x1,x2,x3,x4,x5]⟩),(1,.pointer a),(4,.agg ⟨[v0,v1,v2,v3,v4,v5,v6,v7,v8]⟩)]=some ⟨[x0,x1,x2,x3,x4,x5,.pointer a,str [],str [],v0,v1,v2,v3,v4,v5,v6,v7,v8,i64 0,i64 0,i64 0]⟩:=by kernel_rfl
set_option maxHeartbeats 2000000 in
theorem enter_sv {bH:Nat}{t:ScT}{s:ScS}{sr:List Value}{h:Heap}(hH:HouseAt h bH t)(hO:ScOk t)(hs:s.Fit)(hr:ScSR h sr s):Sv Tryz.prog 86 [.pointer (some ⟨bH,0,none⟩),.agg ⟨sr⟩] h (RetP (EnterR t s bH h)):=by
 obtain⟨row,ag,cg,aw,cw,ht,hgH,-,-⟩:=hH
 obtain⟨al,cl,at',ct,a1,c1',a2,c2',a3,c3',a4,c4',a5,c5',a6,c6',rfl,m1,m2,m3,m4,m5,m6,m7,m8⟩:=ht
 replace hgH:h.get bH=some (.cells [i64 t.first,.slice al t.lands.length cl,.slice at' t.travel.length ct,.slice a1 t.venues.length c1',.slice a2 t.rights.length c2',.slice a3 t.prints.length c3',.slice a4 t.packs.length c4',.slice a5 t.keys.length c5',.slice a6 t.loans.length c6',.slice ag (loansS t).1.length cg,.slice aw (loansS t).2.length cw] 147 false):=hgH
 obtain rfl:=hr
 obtain⟨s1,s2,s3,s4,s5,s6⟩:=hs
 unfold I64 at s1 s2 s3 s4 s5 s6
 have q1:=hO.venues1
 have q2:=hO.prints1
 have q3:=hO.packs1
 have q4:=hO.first
 refine Sv_wf fun hw=>?_
 refine Sv_enter Tryz.func86 rfl (by rw[Tryz.ntmps86];rfl) ?_;show Wc Tryz.prog ⟨86,223,none⟩ _ _ _ _ _
 refine zy ?_
 refine Wo_box rfl rfl rfl fun h1 hE1 hW1 hg1 hn1=>?_
 have hgB:=hE1.get hgH
 generalize h.nx=b1 at *
 refine zy ?_
 by_cases c1:s.venue<0\/(t.venues.length:Int)-1<s.venue
 ·refine Wc_draw hmix [0,1,0,4,12,28,60,124,252,508,1023,2047] [0,1,2,3,4,5,6,7,8,9] (some 10) [([],(some 11)),([],none)] (by kernel_rfl) (by kernel_rfl) ?_
  refine z_f ?_;refine z_l ?_;refine z_m ?_;refine z_q ?_;refine z_f ?_;refine z_f ?_;refine z_f ?_;refine z_l ?_;refine z_c ?_;refine z_u ?_
  refine Wp_eff [0,1,2,3,4,5,6,7,8,9] (by kernel_rfl) rfl (Stl_nil rfl) rfl nb rfl (W1_callV rfl rfl rfl rfl rfl Bod.h (Sv_tt c1 (out_sv _ _ _ _)) ?_)
  refine Wp_eff [0,1,2,3,4,5,6,7,8,9,10] (by kernel_rfl) rfl (Stl_nil rfl) rfl nb rfl (W1_op rfl rfl (A_assign rfl) ?_)
  refine Wp_end (Stl_nil rfl) nb' ?_
  refine zy ?_
  exact Wc_ret (Lv_ret rfl (enter_err (by unfold shownErr;rw[if_pos c1]) (by decide) hE1))
 refine Wc_draw hmix [0,1,0,4,12,28,60,124,252,508,1023,2047] [0,1,2,3,4,5,6,7,8,9] (some 10) [([],(some 11)),([],none)] (by kernel_rfl) (by kernel_rfl) ?_
 refine z_f ?_;refine z_l ?_;refine z_m ?_;refine z_q ?_;refine z_f ?_;refine z_f ?_;refine z_f ?_;refine z_l ?_;refine z_c ?_;refine z_u ?_
 refine Wp_eff [0,1,2,3,4,5,6,7,8,9] (by kernel_rfl) rfl (Stl_nil rfl) rfl nb rfl (W1_callV rfl rfl rfl rfl rfl Bod.h (Sv_ff c1 (out_sv _ _ _ _)) ?_)
 refine Wp_eff [0,1,2,3,4,5,6,7,8,9,10] (by kernel_rfl) rfl (Stl_nil rfl) rfl nb rfl (W1_op rfl rfl (A_assign rfl) ?_)
 refine Wp_end (Stl_nil rfl) nb' ?_
 refine zy ?_
 refine Wo_do rfl rfl rfl rfl (A_eql rfl rfl) ?_
 refine zy ?_
 refine Wo_do rfl rfl rfl rfl (A_eql rfl rfl) ?_
 refine Wo_dec rfl rfl rfl rfl (A_eqlB Und.h rfl rfl) (fun c2=>?_) (fun c2=>?_)
 ·refine zy ?_
  exact Wc_ret (Lv_ret rfl (enter_err (shownErr_pair c1 c2) (by decide) hE1))
 refine zy ?_
 by_cases hp:s.print = -1
 rotate_left
 ·have hk:s.pack = -1:=Classical.byContradiction fun hk=>c2 (by rw[decide_eq_false hp,decide_eq_false hk])
  by_cases c3:s.print<0\/(t.prints.length:Int)-1<s.print
  ·refine Wc_draw hmix [0,1,3,7,15,31,15,79,207,463,975,1999,4047,8143,16383,32767,65535,131071,262143,524287,1048575,2097151,4194303,2097151,10485759,27262975,60817407,127926271,262143999,530579455,1067450367,2147483647,4294967295,8589934591,17179869183] [0,1,2,3,4,5,6,7,8,9,10,11,12,13] (some 14) [([15,16,17,18,19,20,21,22,23,24,25,26,27,28,29,30],(some 31)),([32,33],(some 34)),([],none)] (by kernel_rfl) (by kernel_rfl) ?_
   refine z_f ?_;refine z_l ?_;refine Wp_pure rfl rfl rfl rfl rfl (fun _=>A_tt hp (A_neq rfl rfl)) ?_;refine z_m ?_;refine g_f ?_;refine g_l ?_;refine g_m ?_;refine g_q ?_;refine g_f ?_;refine g_f ?_;refine g_f ?_;refine g_l ?_;refine g_c ?_;refine g_u ?_
   refine Wp_eff [0,1,2,3,4,5,6,7,8,9,10,11,12,13] (by kernel_rfl) rfl (Stl_nil rfl) rfl nb rfl (W1_callV rfl rfl rfl rfl rfl Bod.h (Sv_tt c3 (out_sv _ _ _ _)) ?_)
   refine z_p ?_;refine z_m ?_;refine g_f ?_;refine g_l ?_;refine z_o ?_;refine g_m ?_;refine g_f ?_;refine g_l ?_;refine g_m ?_;refine g_q ?_;refine g_f ?_;refine g_f ?_;refine g_f ?_;refine g_l ?_;refine g_c ?_;refine g_u ?_
   refine Wp_eff [0,1,2,3,4,5,6,7,8,9,10,11,12,13,14,15,16,17,18,19,20,21,22,23,24,25,26,27,28,29,30] (by kernel_rfl) rfl (Stl_nil rfl) rfl nb rfl (W1_off rfl ?_)
   refine g_p ?_;refine z_p ?_
   refine Wp_eff [0,1,2,3,4,5,6,7,8,9,10,11,12,13,14,15,16,17,18,19,20,21,22,23,24,25,26,27,28,29,30,31,32,33] (by kernel_rfl) rfl (Stl_nil rfl) rfl nb rfl (W1_op rfl rfl (A_assign rfl) ?_)
   refine Wp_end (Stl_nil rfl) nb' ?_
   refine zy ?_
   exact Wc_ret (Lv_ret rfl (enter_err (shownErr_out c1 c2 (.inl ⟨hp,c3⟩)) (by decide) hE1))
  refine Wc_draw hmix [0,1,3,7,15,31,15,79,207,463,975,1999,4047,8143,16383,32767,65535,131071,262143,524287,1048575,2097151,4194303,2097151,10485759,27262975,60817407,127926271,262143999,530579455,1067450367,2147483647,4294967295,8589934591,17179869183] [0,1,2,3,4,5,6,7,8,9,10,11,12,13] (some 14) [([15,16,17,18,19,20,21,22,23,24,25,26,27,28,29,30],(some 31)),([32,33],(some 34)),([],none)] (by kernel_rfl) (by kernel_rfl) ?_
  refine z_f ?_;refine z_l ?_;refine Wp_pure rfl rfl rfl rfl rfl (fun _=>A_tt hp (A_neq rfl rfl)) ?_;refine z_m ?_;refine g_f ?_;refine g_l ?_;refine g_m ?_;refine g_q ?_;refine g_f ?_;refine g_f ?_;refine g_f ?_;refine g_l ?_;refine g_c ?_;refine g_u ?_
  refine Wp_eff [0,1,2,3,4,5,6,7,8,9,10,11,12,13] (by kernel_rfl) rfl (Stl_nil rfl) rfl nb rfl (W1_callV rfl rfl rfl rfl rfl Bod.h (Sv_ff c3 (out_sv _ _ _ _)) ?_)
  refine z_p ?_;refine z_m ?_;refine g_f ?_;refine g_l ?_
  first|refine Wp_off rfl rfl rfl rfl ?_|refine Wp_pure rfl rfl rfl rfl rfl (fun _=>A_ff (by omega) (A_neq rfl rfl)) ?_
  refine g_m ?_;refine g_f ?_;refine g_l ?_;refine g_m ?_;refine g_q ?_;refine g_f ?_;refine g_f ?_;refine g_f ?_;refine g_l ?_;refine g_c ?_;refine g_u ?_
  refine Wp_eff [0,1,2,3,4,5,6,7,8,9,10,11,12,13,14,15,16,17,18,19,20,21,22,23,24,25,26,27,28,29,30] (by kernel_rfl) rfl (Stl_nil rfl) rfl nb rfl (W1_off rfl ?_)
  refine g_p ?_;refine z_p ?_
  refine Wp_eff [0,1,2,3,4,5,6,7,8,9,10,11,12,13,14,15,16,17,18,19,20,21,22,23,24,25,26,27,28,29,30,31,32,33] (by kernel_rfl) rfl (Stl_nil rfl) rfl nb rfl (W1_op rfl rfl (A_assign rfl) ?_)
  refine Wp_end (Stl_nil rfl) nb' ?_
  have hprint:0<=s.print/\s.print<t.prints.length:=by omega
  replace c3:¬((s.print ≠ -1/\(s.print<0\/(t.prints.length:Int)-1<s.print))\/(s.pack ≠ -1/\(s.pack<0\/(t.packs.length:Int)-1<s.pack))):=by omega
  refine zy ?_
  refine Wo_callP rfl rfl rfl rfl rfl Bod.h rfl rfl (out_sv _ _ _ _) (fun c4=>?_) (fun c4=>?_)
  ·refine zy ?_
   exact Wc_ret (Lv_ret rfl (enter_err (by rw[shownErr_rng c1 c2 c3,if_pos (.inl (of_decide_eq_true c4))]) (by decide) hE1))
  refine zy ?_
  refine Wo_callP rfl rfl rfl rfl rfl Bod.h rfl rfl (out_sv _ _ _ _) (fun c5=>?_) (fun c5=>?_)
  ·refine zy ?_
   exact Wc_ret (Lv_ret rfl (enter_err (by rw[shownErr_rng c1 c2 c3,if_pos (.inr (.inl (of_decide_eq_true c5)))]) (by decide) hE1))
  refine zy ?_
  refine Wo_callP rfl rfl rfl rfl rfl Bod.h rfl rfl (out_sv _ _ _ _) (fun c6=>?_) (fun c6=>?_)
  ·refine zy ?_
   exact Wc_ret (Lv_ret rfl (enter_err (by rw[shownErr_rng c1 c2 c3,if_pos (.inr (.inr (of_decide_eq_true c6)))]) (by decide) hE1))
  refine zy ?_
  replace c4:=of_decide_eq_false c4
  replace c5:=of_decide_eq_false c5
  replace c6:=of_decide_eq_false c6
  have hs0:shownErr t s=0:=by rw[shownErr_rng c1 c2 c3,if_neg (fun x=>x.elim c4 fun x=>x.elim c5 c6)]
  have hlr:=long_rng hO hs0
  obtain⟨bv,ov,oav,rfl,hrv⟩:=ven_row (RowsAt.ext (R:=ScVR) (fun x _=>x) m3 hE1) (s:=s) (by omega) (by omega)
  obtain⟨-,⟨vp1,vp2⟩,⟨vc1,vc2⟩,-⟩:=venue_ok (ven_ok hO hs0)
  generalize hV:venAt t s=V at *
  refine Wc_draw hmix [0,0,0,4,12,28,60,124,0,256,1020,2044,4095,8191,16383] [0,1,2,3,4,5,6,7,8,9,10,11,12,13] (some 14) [([],none)] (by kernel_rfl) (by kernel_rfl) ?_
  refine z_r ?_;refine z_m ?_;refine z_m ?_;refine z_q ?_;refine z_f ?_;refine z_f ?_;refine z_f ?_;refine z_l ?_;refine z_f ?_;refine z_l ?_;refine Wp_pure rfl rfl rfl rfl rfl (fun _=>A_indexAddr (k:=s.venue.toNat) Und.h Tsz.h rfl rfl (by omega) (by omega)) ?_;refine z_r ?_;refine Wp_pure rfl rfl rfl rfl rfl (fun _=>A_build rfl (fill21 _ _ _ _ _ _ _ _ _ _ _ _ _ _ _ _)) ?_
  refine Wp_new (nk:=.ptr) rfl rfl rfl rfl rfl (fun _ _ hs=>N_box hs rfl) ?_
  refine Wp_eff (h1:=(Heap.add h1 _)) [0,1,2,3,4,5,6,7,8,9,10,11,12,13] (by kernel_rfl) rfl (Stl_nil rfl) rfl rfl rfl (W1_op rfl rfl (A_assign rfl) ?_)
  refine Wp_end (h1:=(Heap.add h1 _)) (Stl_nil rfl) rfl ?_
  refine Wc_add (o:=.cells [i64 s.venue,i64 s.print,i64 s.pack,i64 s.minute,i64 s.speed,i64 s.worth,.pointer (some ⟨bH,0,none⟩),str [],str [],str V.name,i64 V.land,i64 V.proj,i64 V.speeds.lo,i64 V.speeds.hi,i64 V.change,i64 V.spool,i64 V.turn,.bool V.digital,i64 0,i64 0,i64 0] 156 false) hW1 fun h2 hE2 hW2 hgS=>?_
  have g12:=hE2.get hg1
  have gB2:=hE2.get hgB
  have hnS:h1.nx<=h1.nx:=Nat.le_refl _
  refine zy ?_
  refine Wo_do rfl rfl rfl rfl (A_ff (by omega) (A_geq rfl rfl)) ?_
  refine zy ?_
  obtain⟨bp,op,oap,rfl,ap,cp,hrp,hI⟩:=pr_row (RowsAt.ext (R:=ScPR) (fun x y=>ScPR.ext x y) m5 (hE1.trans hE2)) (s:=s) hprint.1 hprint.2
  obtain⟨⟨l1,l2⟩,l3,-,-⟩:=print_ok (pr_ok hO hs0 hk)
  have hEnd:endS t s=s.minute+longS t s:=rfl
  have hlong:longS t s=if V.proj<2 then upS (secsS (prAt t s).reels s.speed) 60+V.change*(((prAt t s).reels.length:Int)-1) else upS (secsS (prAt t s).reels s.speed) 60:=by unfold longS;rw[if_neg (by omega),hV]
  have hsr:=secs_rng (l:=(prAt t s).reels) (speed:=s.speed) (by omega) l3
  generalize hPr:prAt t s=Pr at *
  refine Wc_draw hmix [0,1,3,7,15,31,0,64,255,511,0,2047] [0,1,2,3,4,5,6,7,8,9,10] (some 11) [([],none)] (by kernel_rfl) (by kernel_rfl) ?_
  refine z_m ?_;refine z_q ?_;refine z_f ?_;refine z_f ?_;refine z_f ?_;refine z_l ?_;refine z_f ?_;refine z_l ?_;refine Wp_pure rfl rfl rfl rfl rfl (fun _=>A_indexAddr (k:=s.print.toNat) Und.h Tsz.h rfl rfl (by omega) (by omega)) ?_;refine z_r ?_
  refine Wp_new (nk:=.ptr) rfl rfl rfl rfl rfl (fun _ _ _=>N_alloc Zr.h) ?_
  refine Wp_eff (h1:=(Heap.add h2 _)) [0,1,2,3,4,5,6,7,8,9,10] (by kernel_rfl) rfl (Stl_nil rfl) rfl rfl rfl (W1_wfK (W1_store rfl rfl Tsz.h rfl rfl Heap.get_add_same rfl rfl rfl (fun h3 hU3 hW3=>?_)))
  have hE3:=hU3.ext (Ext.add hW2 _) hW2 (Nat.le_refl _)
  refine Wp_end (h1:=h3) (Stl_nil rfl) rfl ?_
  have gP:=hU3.at'
  have gS:=hE3.get hgS
  have hEn:=hE2.trans hE3
  have k1:=hEn.get hg1
  have hI3:=hI.ext hE3
  generalize hbP:h2.nx=bP at gP
  have hne:h1.nx≠bP:=by
   have:=hW2 _ _ hgS
   omega
  refine zy ?_
  refine Wc_loop (fun (k:Nat) m ds h'=>ds=[]/\h3=h'/\k<=Pr.reels.length ∧
    AllK m [(0,.pointer (some ⟨bH,0,none⟩)),(3,.pointer (some ⟨b1,0,none⟩)),(6,.pointer (some ⟨h1.nx,0,none⟩)),(8,.pointer (some ⟨bP,0,none⟩)),(9,i64 (secsS (Pr.reels.take k) s.speed)),(141,.slice ap Pr.reels.length cp),(142,i64 Pr.reels.length),(143,i64 k)]) (fun k=>Pr.reels.length-k) 0 ?_ ?_
  ·exact⟨rfl,rfl,Nat.zero_le _,rfl,rfl,rfl,rfl,rfl,rfl,rfl,rfl,trivial⟩
  rintro k m ds h' ⟨rfl,rfl,hk',hall⟩
  refine Wc.le ?_ (Le.kn hall)
  refine zy ?_
  refine Wo_dec rfl rfl rfl rfl (A_lss rfl rfl) (fun h4=>?_) (fun h4=>?_)
  ·have hk2:k<Pr.reels.length:=by simpa using h4
   obtain⟨b2,o2,oa2,rfl,hc2⟩:=hI3 k hk2
   have hn2:=l3 _ (List.getElem_mem hk2)
   have hss:secsS (Pr.reels.take (k+1)) s.speed=secsS (Pr.reels.take k) s.speed+upS Pr.reels[k] s.speed:=by
    unfold secsS
    rw[List.take_add_one,List.getElem?_eq_getElem hk2,List.map_append,List.sum_append];simp
   have hs2:=secs_rng (l:=Pr.reels.take k) (speed:=s.speed) (by omega) (fun n hn=>l3 n (List.mem_of_mem_take hn))
   rw[List.length_take,Nat.min_eq_left (by omega)] at hs2
   have hu:=upS_rng (a:=Pr.reels[k]) (b:=s.speed) (by omega) (by omega)
   have hup:=fun h=>up_sv (a:=Pr.reels[k]) (b:=s.speed) (by omega) (by omega) (by omega) (by omega) h
   generalize hmk:Pr.reels[k]=x at *
   generalize upS x s.speed=u at *
   generalize secsS (Pr.reels.take k) s.speed=z at *
   refine zy ?_
   refine Wo_do rfl rfl rfl rfl (A_ix Und.h Tsz.h rfl rfl) ?_
   refine zy ?_
   refine Wo_callV rfl rfl rfl rfl rfl Bod.h rfl rfl (hup _) ?_
   refine zy ?_
   refine⟨k+1,(by show Pr.reels.length-(k+1)<Pr.reels.length-k;omega),rfl,rfl,hk2,rfl,rfl,rfl,rfl,?_,rfl,rfl,rfl,trivial⟩
   rw[hss];rfl
  have hk2:k=Pr.reels.length:=by omega
  subst hk2
  rw[List.take_length]
  clear hk'
  have hup:=fun h=>up_sv (a:=secsS Pr.reels s.speed) (b:=60) (by omega) (by omega) (by omega) (by omega) h
  have hu:=upS_rng (a:=secsS Pr.reels s.speed) (b:=60) (by omega) (by omega)
  generalize hZ:secsS Pr.reels s.speed=Z at *
  generalize hN:upS Z 60=N at *
  clear hall h4
  refine zy ?_
  refine Wc_draw hmix [0,0,0,0,8,0,32,0,128,0,512,1920,1561,5657,13849,30331,63099,128635,262143,524287,1048575] [0,1,2,3,4,5,6,7,8,9] (some 10) [([11,12,13],(some 14)),([15,16],(some 17)),([18,19],(some 20)),([],none)] (by kernel_rfl) (by kernel_rfl) ?_
  refine z_m ?_;refine z_m ?_;refine z_m ?_;refine z_f ?_;refine z_l ?_;refine z_f ?_;refine z_l ?_;refine z_f ?_;refine z_l ?_;refine z_m ?_
  refine Wp_eff [9] (by kernel_rfl) rfl (Stl_nil rfl) rfl nb rfl (W1_callV rfl rfl rfl rfl rfl Bod.h (hup _) ?_)
  refine z_y ?_;refine z_q ?_;refine z_f ?_
  refine Wp_eff [0,3,4,9,10,12,13] (by kernel_rfl) rfl (by refine t_l 8 ?_;refine t_f 7 ?_;refine t_l 6 ?_;refine t_f 5 ?_;refine t_l 4 ?_;refine t_f 3 ?_;refine t_m 2 ?_;refine t_m 1 ?_;refine t_m 0 ?_;exact Stl_nil rfl) rfl nb rfl (W1_wfK (W1_store rfl rfl Tsz.h rfl rfl gS rfl rfl rfl (fun h4 hU4 hW4=>?_)))
  have hEn4:=hU4.ext hEn hW1 (Nat.le_refl _)
  have gP4:=hU4.get (Ne.symm hne) gP
  have k14:=hEn4.get hg1
  have gS4:=hU4.at'
  refine z_q ?_;refine z_f ?_
  refine Wp_eff [0,1,3,4,5,6,9,10,12,13,14,15,16] (by kernel_rfl) rfl (by refine t_y 11 ?_;refine t_l 8 ?_;refine t_f 7 ?_;refine t_l 6 ?_;refine t_f 5 ?_;refine t_m 2 ?_;refine t_m 1 ?_;exact Stl_nil rfl) rfl nb rfl (W1_wfK (W1_store rfl rfl Tsz.h rfl rfl gS4 rfl rfl rfl (fun h5 hU5 hW5=>?_)))
  have hEn5:=hU5.ext hEn4 hW1 (Nat.le_refl _)
  have gP5:=hU5.get (Ne.symm hne) gP4
  have k15:=hEn5.get hg1
  have gS5:=hU5.at'
  refine z_q ?_;refine z_f ?_
  refine Wp_eff [0,1,2,3,4,5,6,7,8,9,10,11,12,13,14,15,16,17,18,19] (by kernel_rfl) rfl (by refine t_y 11 ?_;refine t_l 8 ?_;refine t_f 7 ?_;refine t_m 2 ?_;exact Stl_nil rfl) rfl nb rfl (W1_wfK (W1_store rfl rfl Tsz.h rfl rfl gS5 rfl rfl rfl (fun h6 hU6 hW6=>?_)))
  have hEn6:=hU6.ext hEn5 hW1 (Nat.le_refl _)
  have gP6:=hU6.get (Ne.symm hne) gP5
  have gS6:=hU6.at'
  refine Wp_end (Stl_nil rfl) nb' ?_
  clear gP gP4 gP5 k1 k14 k15 gS gS4 gS5 hEn hEn4 hEn5 hU4 hU5 hU6
  refine zy ?_
  by_cases c7:V.proj<2
  ·rw[if_pos c7] at hlong
   have hmul:0<=V.change*((Pr.reels.length:Int)-1):=Int.mul_nonneg vc1 (by omega)
   have hmul2:V.change*((Pr.reels.length:Int)-1)<=60*11:=Int.mul_le_mul vc2 (by omega) (by omega) (by decide)
   generalize hM:V.change*((Pr.reels.length:Int)-1)=M at *
   refine Wo_do rfl rfl rfl rfl (A_tt c7 (A_lss rfl rfl)) ?_
   refine zy ?_
   refine Wc_draw hmix [0,1,3,7,0,16,48,112,240,0,512,1536,3584,8176,16383,32767,65535,131071] [0,1,2,3,4,5,6,7,8,9,10,11,12,13,14,15,16] (some 17) [([],none)] (by kernel_rfl) (by kernel_rfl) ?_
   refine z_m ?_;refine z_q ?_;refine z_f ?_;refine z_l ?_;refine z_m ?_;refine z_q ?_;refine z_f ?_;refine z_f ?_;refine z_l ?_;refine z_f ?_;refine z_l ?_;refine z_c ?_;refine z_u ?_;refine Wp_pure rfl rfl rfl rfl rfl (fun _=>A_mulV rfl rfl hM (by omega) (by omega)) ?_;refine z_y ?_;refine z_q ?_;refine z_f ?_
   refine Wp_eff [0,1,2,3,4,5,6,7,8,9,10,11,12,13,14,15,16] (by kernel_rfl) rfl (Stl_nil rfl) rfl nb rfl (W1_store rfl rfl Tsz.h rfl rfl gS6 rfl rfl rfl (fun h7 hU7=>?_))
   refine Wp_end (Stl_nil rfl) nb' ?_
   have hEn:=hU7.ext hEn6 hW1 (Nat.le_refl _)
   have gSn:=hU7.at'
   rw[hlong] at hEnd hlr
   rw[<-Int.add_assoc] at hEnd
   have k1:=hEn.get hg1
   have kB:=hEn.get hgB
   refine zy ?_
   refine Wc_draw hmix [0,0,2,6,14,30,62,0,128,384,1022,0,2048,6144,14336,30720,63488,0,131072,393216,917504,1966080,4063232,8386560,16777214,33554431,67108863,134217727] [0,1,2,3,4,5,6,7,8,9,10,11,12,13,14,15,16,17,18,19,20,21,22,23,24,25,26] (some 27) [([],none)] (by kernel_rfl) (by kernel_rfl) ?_
   refine z_m ?_;refine z_m ?_;refine z_q ?_;refine z_f ?_;refine z_f ?_;refine z_f ?_;refine z_l ?_;refine z_f ?_;refine z_l ?_;refine Wp_pure rfl rfl rfl rfl rfl (fun _=>A_quo rfl rfl (by omega) (day_tdiv (by omega)) (by omega) (by omega)) ?_;refine z_y ?_;refine z_m ?_;refine z_q ?_;refine z_f ?_;refine z_f ?_;refine z_f ?_;refine z_l ?_;refine z_m ?_;refine z_q ?_;refine z_f ?_;refine z_l ?_;refine z_u ?_;refine Wp_pure rfl rfl rfl rfl rfl (fun _=>A_quo rfl rfl (by omega) (day_tdiv (by omega)) (by omega) (by omega)) ?_;refine z_y ?_;refine z_b ?_;refine z_q ?_;refine z_f ?_
   refine Wp_eff [0,1,2,3,4,5,6,7,8,9,10,11,12,13,14,15,16,17,18,19,20,21,22,23,24,25,26] (by kernel_rfl) rfl (Stl_nil rfl) rfl nb rfl (W1_store rfl rfl Tsz.h rfl rfl gSn rfl rfl rfl (fun h9 hU9=>?_))
   refine Wp_end (Stl_nil rfl) nb' ?_
   have hE9:=hU9.ext hEn hW1 (Nat.le_refl _)
   have gS9:=hU9.at'
   refine zy ?_
   refine Wc_ret (Lv_ret rfl ⟨hE1.trans hE9,.inr ⟨hs0,h1.nx,rfl,?_,hE1.2.1⟩⟩)
   have e1:workS t s=Pr.work:=by unfold workS;rw[if_pos hprint.1,hPr]
   have e2:versS t s=Pr.version:=by unfold versS;rw[if_pos hprint.1,hPr]
   unfold ShowAt shRow daysS
   rw[e1,e2,hV,hEnd]
   exact gS9
  ·rw[if_neg c7] at hlong
   refine Wo_do rfl rfl rfl rfl (A_ff c7 (A_lss rfl rfl)) ?_
   have hEn:=hEn6
   have gSn:=gS6
   rw[hlong] at hEnd hlr
   have k1:=hEn.get hg1
   have kB:=hEn.get hgB
   refine zy ?_
   refine Wc_draw hmix [0,0,2,6,14,30,62,0,128,384,1022,0,2048,6144,14336,30720,63488,0,131072,393216,917504,1966080,4063232,8386560,16777214,33554431,67108863,134217727] [0,1,2,3,4,5,6,7,8,9,10,11,12,13,14,15,16,17,18,19,20,21,22,23,24,25,26] (some 27) [([],none)] (by kernel_rfl) (by kernel_rfl) ?_
   refine z_m ?_;refine z_m ?_;refine z_q ?_;refine z_f ?_;refine z_f ?_;refine z_f ?_;refine z_l ?_;refine z_f ?_;refine z_l ?_;refine Wp_pure rfl rfl rfl rfl rfl (fun _=>A_quo rfl rfl (by omega) (day_tdiv (by omega)) (by omega) (by omega)) ?_;refine z_y ?_;refine z_m ?_;refine z_q ?_;refine z_f ?_;refine z_f ?_;refine z_f ?_;refine z_l ?_;refine z_m ?_;refine z_q ?_;refine z_f ?_;refine z_l ?_;refine z_u ?_;refine Wp_pure rfl rfl rfl rfl rfl (fun _=>A_quo rfl rfl (by omega) (day_tdiv (by omega)) (by omega) (by omega)) ?_;refine z_y ?_;refine z_b ?_;refine z_q ?_;refine z_f ?_
   refine Wp_eff [0,1,2,3,4,5,6,7,8,9,10,11,12,13,14,15,16,17,18,19,20,21,22,23,24,25,26] (by kernel_rfl) rfl (Stl_nil rfl) rfl nb rfl (W1_store rfl rfl Tsz.h rfl rfl gSn rfl rfl rfl (fun h9 hU9=>?_))
   refine Wp_end (Stl_nil rfl) nb' ?_
   have hE9:=hU9.ext hEn hW1 (Nat.le_refl _)
   have gS9:=hU9.at'
   refine zy ?_
   refine Wc_ret (Lv_ret rfl ⟨hE1.trans hE9,.inr ⟨hs0,h1.nx,rfl,?_,hE1.2.1⟩⟩)
   have e1:workS t s=Pr.work:=by unfold workS;rw[if_pos hprint.1,hPr]
   have e2:versS t s=Pr.version:=by unfold versS;rw[if_pos hprint.1,hPr]
   unfold ShowAt shRow daysS
   rw[e1,e2,hV,hEnd]
   exact gS9
 ·have hk:¬s.pack = -1:=fun hk=>c2 (by rw[decide_eq_true hp,decide_eq_true hk])
  by_cases c3:s.pack<0\/(t.packs.length:Int)-1<s.pack
  ·refine Wc_draw hmix [0,1,3,7,15,31,15,79,207,463,975,1999,4047,8143,16383,32767,65535,131071,262143,524287,1048575,2097151,4194303,2097151,10485759,27262975,60817407,127926271,262143999,530579455,1067450367,2147483647,4294967295,8589934591,17179869183] [0,1,2,3,4,5,6,7,8,9,10,11,12,13] (some 14) [([15,16,17,18,19,20,21,22,23,24,25,26,27,28,29,30],(some 31)),([32,33],(some 34)),([],none)] (by kernel_rfl) (by kernel_rfl) ?_
   refine z_f ?_;refine z_l ?_;refine Wp_pure rfl rfl rfl rfl rfl (fun _=>A_ff (by omega) (A_neq rfl rfl)) ?_;refine z_m ?_;refine g_f ?_;refine g_l ?_;refine g_m ?_;refine g_q ?_;refine g_f ?_;refine g_f ?_;refine g_f ?_;refine g_l ?_;refine g_c ?_;refine g_u ?_
   refine Wp_eff [0,1,2,3,4,5,6,7,8,9,10,11,12,13] (by kernel_rfl) rfl (Stl_nil rfl) rfl nb rfl (W1_off rfl ?_)
   refine z_p ?_;refine z_m ?_;refine g_f ?_;refine g_l ?_
   first|refine Wp_off rfl rfl rfl rfl ?_|refine Wp_pure rfl rfl rfl rfl rfl (fun _=>A_tt hk (A_neq rfl rfl)) ?_
   refine g_m ?_;refine g_f ?_;refine g_l ?_;refine g_m ?_;refine g_q ?_;refine g_f ?_;refine g_f ?_;refine g_f ?_;refine g_l ?_;refine g_c ?_;refine g_u ?_
   refine Wp_eff [0,1,2,3,4,5,6,7,8,9,10,11,12,13,14,15,16,17,18,19,20,21,22,23,24,25,26,27,28,29,30] (by kernel_rfl) rfl (Stl_nil rfl) rfl nb rfl (W1_callV rfl rfl rfl rfl rfl Bod.h (Sv_tt c3 (out_sv _ _ _ _)) ?_)
   refine g_p ?_;refine z_p ?_
   refine Wp_eff [0,1,2,3,4,5,6,7,8,9,10,11,12,13,14,15,16,17,18,19,20,21,22,23,24,25,26,27,28,29,30,31,32,33] (by kernel_rfl) rfl (Stl_nil rfl) rfl nb rfl (W1_op rfl rfl (A_assign rfl) ?_)
   refine Wp_end (Stl_nil rfl) nb' ?_
   refine zy ?_
   exact Wc_ret (Lv_ret rfl (enter_err (shownErr_out c1 c2 (.inr ⟨hk,c3⟩)) (by decide) hE1))
  refine Wc_draw hmix [0,1,3,7,15,31,15,79,207,463,975,1999,4047,8143,16383,32767,65535,131071,262143,524287,1048575,2097151,4194303,2097151,10485759,27262975,60817407,127926271,262143999,530579455,1067450367,2147483647,4294967295,8589934591,17179869183] [0,1,2,3,4,5,6,7,8,9,10,11,12,13] (some 14) [([15,16,17,18,19,20,21,22,23,24,25,26,27,28,29,30],(some 31)),([32,33],(some 34)),([],none)] (by kernel_rfl) (by kernel_rfl) ?_
  refine z_f ?_;refine z_l ?_;refine Wp_pure rfl rfl rfl rfl rfl (fun _=>A_ff (by omega) (A_neq rfl rfl)) ?_;refine z_m ?_;refine g_f ?_;refine g_l ?_;refine g_m ?_;refine g_q ?_;refine g_f ?_;refine g_f ?_;refine g_f ?_;refine g_l ?_;refine g_c ?_;refine g_u ?_
  refine Wp_eff [0,1,2,3,4,5,6,7,8,9,10,11,12,13] (by kernel_rfl) rfl (Stl_nil rfl) rfl nb rfl (W1_off rfl ?_)
  refine z_p ?_;refine z_m ?_;refine g_f ?_;refine g_l ?_
  first|refine Wp_off rfl rfl rfl rfl ?_|refine Wp_pure rfl rfl rfl rfl rfl (fun _=>A_tt hk (A_neq rfl rfl)) ?_
  refine g_m ?_;refine g_f ?_;refine g_l ?_;refine g_m ?_;refine g_q ?_;refine g_f ?_;refine g_f ?_;refine g_f ?_;refine g_l ?_;refine g_c ?_;refine g_u ?_
  refine Wp_eff [0,1,2,3,4,5,6,7,8,9,10,11,12,13,14,15,16,17,18,19,20,21,22,23,24,25,26,27,28,29,30] (by kernel_rfl) rfl (Stl_nil rfl) rfl nb rfl (W1_callV rfl rfl rfl rfl rfl Bod.h (Sv_ff c3 (out_sv _ _ _ _)) ?_)
  refine g_p ?_;refine z_p ?_
  refine Wp_eff [0,1,2,3,4,5,6,7,8,9,10,11,12,13,14,15,16,17,18,19,20,21,22,23,24,25,26,27,28,29,30,31,32,33] (by kernel_rfl) rfl (Stl_nil rfl) rfl nb rfl (W1_op rfl rfl (A_assign rfl) ?_)
  refine Wp_end (Stl_nil rfl) nb' ?_
  have hpack:0<=s.pack/\s.pack<t.packs.length:=by omega
  replace c3:¬((s.print ≠ -1/\(s.print<0\/(t.prints.length:Int)-1<s.print))\/(s.pack ≠ -1/\(s.pack<0\/(t.packs.length:Int)-1<s.pack))):=by omega
  refine zy ?_
  refine Wo_callP rfl rfl rfl rfl rfl Bod.h rfl rfl (out_sv _ _ _ _) (fun c4=>?_) (fun c4=>?_)
  ·refine zy ?_
   exact Wc_ret (Lv_ret rfl (enter_err (by rw[shownErr_rng c1 c2 c3,if_pos (.inl (of_decide_eq_true c4))]) (by decide) hE1))
  refine zy ?_
  refine Wo_callP rfl rfl rfl rfl rfl Bod.h rfl rfl (out_sv _ _ _ _) (fun c5=>?_) (fun c5=>?_)
  ·refine zy ?_
   exact Wc_ret (Lv_ret rfl (enter_err (by rw[shownErr_rng c1 c2 c3,if_pos (.inr (.inl (of_decide_eq_true c5)))]) (by decide) hE1))
  refine zy ?_
  refine Wo_callP rfl rfl rfl rfl rfl Bod.h rfl rfl (out_sv _ _ _ _) (fun c6=>?_) (fun c6=>?_)
  ·refine zy ?_
   exact Wc_ret (Lv_ret rfl (enter_err (by rw[shownErr_rng c1 c2 c3,if_pos (.inr (.inr (of_decide_eq_true c6)))]) (by decide) hE1))
  refine zy ?_
  replace c4:=of_decide_eq_false c4
  replace c5:=of_decide_eq_false c5
  replace c6:=of_decide_eq_false c6
  have hs0:shownErr t s=0:=by rw[shownErr_rng c1 c2 c3,if_neg (fun x=>x.elim c4 fun x=>x.elim c5 c6)]
  have hlr:=long_rng hO hs0
  obtain⟨bv,ov,oav,rfl,hrv⟩:=ven_row (RowsAt.ext (R:=ScVR) (fun x _=>x) m3 hE1) (s:=s) (by omega) (by omega)
  obtain⟨-,⟨vp1,vp2⟩,⟨vc1,vc2⟩,-⟩:=venue_ok (ven_ok hO hs0)
  generalize hV:venAt t s=V at *
  refine Wc_draw hmix [0,0,0,4,12,28,60,124,0,256,1020,2044,4095,8191,16383] [0,1,2,3,4,5,6,7,8,9,10,11,12,13] (some 14) [([],none)] (by kernel_rfl) (by kernel_rfl) ?_
  refine z_r ?_;refine z_m ?_;refine z_m ?_;refine z_q ?_;refine z_f ?_;refine z_f ?_;refine z_f ?_;refine z_l ?_;refine z_f ?_;refine z_l ?_;refine Wp_pure rfl rfl rfl rfl rfl (fun _=>A_indexAddr (k:=s.venue.toNat) Und.h Tsz.h rfl rfl (by omega) (by omega)) ?_;refine z_r ?_;refine Wp_pure rfl rfl rfl rfl rfl (fun _=>A_build rfl (fill21 _ _ _ _ _ _ _ _ _ _ _ _ _ _ _ _)) ?_
  refine Wp_new (nk:=.ptr) rfl rfl rfl rfl rfl (fun _ _ hs=>N_box hs rfl) ?_
  refine Wp_eff (h1:=(Heap.add h1 _)) [0,1,2,3,4,5,6,7,8,9,10,11,12,13] (by kernel_rfl) rfl (Stl_nil rfl) rfl rfl rfl (W1_op rfl rfl (A_assign rfl) ?_)
  refine Wp_end (h1:=(Heap.add h1 _)) (Stl_nil rfl) rfl ?_
  refine Wc_add (o:=.cells [i64 s.venue,i64 s.print,i64 s.pack,i64 s.minute,i64 s.speed,i64 s.worth,.pointer (some ⟨bH,0,none⟩),str [],str [],str V.name,i64 V.land,i64 V.proj,i64 V.speeds.lo,i64 V.speeds.hi,i64 V.change,i64 V.spool,i64 V.turn,.bool V.digital,i64 0,i64 0,i64 0] 156 false) hW1 fun h2 hE2 hW2 hgS=>?_
  have g12:=hE2.get hg1
  have gB2:=hE2.get hgB
  have hnS:h1.nx<=h1.nx:=Nat.le_refl _
  refine zy ?_
  refine Wo_do rfl rfl rfl rfl (A_tt hpack.1 (A_geq rfl rfl)) ?_
  refine zy ?_
  obtain⟨bp,op,oap,rfl,hrp⟩:=pk_row (RowsAt.ext (R:=ScPkR) (fun x _=>x) m6 (hE1.trans hE2)) (s:=s) hpack.1 hpack.2
  obtain⟨⟨l1,l2⟩,-⟩:=pack_ok (pk_ok hO hs0 hpack.1)
  have hEnd:endS t s=s.minute+longS t s:=rfl
  have hlong:longS t s=upS (pkAt t s).frames (60*s.speed):=by unfold longS;rw[if_pos hpack.1,upS_up (by omega)]
  generalize hPk:pkAt t s=Pk at *
  rw[hlong] at hEnd hlr
  have hup:=fun h=>up_sv (a:=Pk.frames) (b:=60*s.speed) (by omega) (by omega) (by omega) (by omega) h
  generalize hX:60*s.speed=X at *
  generalize hN:upS Pk.frames X=N at *
  refine Wc_draw hmix [0,1,3,7,15,31,0,64,255,511,0,2047] [0,1,2,3,4,5,6,7,8,9,10] (some 11) [([],none)] (by kernel_rfl) (by kernel_rfl) ?_
  refine z_m ?_;refine z_q ?_;refine z_f ?_;refine z_f ?_;refine z_f ?_;refine z_l ?_;refine z_f ?_;refine z_l ?_;refine Wp_pure rfl rfl rfl rfl rfl (fun _=>A_indexAddr (k:=s.pack.toNat) Und.h Tsz.h rfl rfl (by omega) (by omega)) ?_;refine z_r ?_
  refine Wp_new (nk:=.ptr) rfl rfl rfl rfl rfl (fun _ _ _=>N_alloc Zr.h) ?_
  refine Wp_eff (h1:=(Heap.add h2 _)) [0,1,2,3,4,5,6,7,8,9,10] (by kernel_rfl) rfl (Stl_nil rfl) rfl rfl rfl (W1_wfK (W1_store rfl rfl Tsz.h rfl rfl Heap.get_add_same rfl rfl rfl (fun h3 hU3 hW3=>?_)))
  have hE3:=hU3.ext (Ext.add hW2 _) hW2 (Nat.le_refl _)
  refine Wp_end (h1:=h3) (Stl_nil rfl) rfl ?_
  have gP:=hU3.at'
  have gS:=hE3.get hgS
  have hEn3:=hE2.trans hE3
  have k13:=hEn3.get hg1
  generalize hbP:h2.nx=bP at gP
  have hne:h1.nx≠bP:=by
   have:=hW2 _ _ hgS
   omega
  refine zy ?_
  refine Wc_draw hmix [0,0,0,0,8,0,32,0,128,0,512,0,2048,6144,15872,32640,32281,97817,228889,491131,1015419,2063995,4194303,8388607,16777215] [0,1,2,3,4,5,6,7,8,9,10,11,12,13] (some 14) [([15,16,17],(some 18)),([19,20],(some 21)),([22,23],(some 24)),([],none)] (by kernel_rfl) (by kernel_rfl) ?_
  refine z_m ?_;refine z_m ?_;refine z_m ?_;refine z_f ?_;refine z_l ?_;refine z_f ?_;refine z_l ?_;refine z_f ?_;refine z_l ?_;refine z_f ?_;refine z_l ?_;refine z_f ?_;refine z_l ?_;refine Wp_pure rfl rfl rfl rfl rfl (fun _=>A_mulV rfl rfl hX (by omega) (by omega)) ?_
  refine Wp_eff [9,10,11,12,13] (by kernel_rfl) rfl (Stl_nil rfl) rfl nb rfl (W1_callV rfl rfl rfl rfl rfl Bod.h (hup _) ?_)
  refine z_y ?_;refine z_q ?_;refine z_f ?_
  refine Wp_eff [0,3,4,9,10,11,12,13,14,16,17] (by kernel_rfl) rfl (by refine t_l 8 ?_;refine t_f 7 ?_;refine t_l 6 ?_;refine t_f 5 ?_;refine t_l 4 ?_;refine t_f 3 ?_;refine t_m 2 ?_;refine t_m 1 ?_;refine t_m 0 ?_;exact Stl_nil rfl) rfl nb rfl (W1_wfK (W1_store rfl rfl Tsz.h rfl rfl gS rfl rfl rfl (fun h4 hU4 hW4=>?_)))
  have hEn4:=hU4.ext hEn3 hW1 (Nat.le_refl _)
  have gP4:=hU4.get (Ne.symm hne) gP
  have k14:=hEn4.get hg1
  have gS4:=hU4.at'
  refine z_q ?_;refine z_f ?_
  refine Wp_eff [0,1,3,4,5,6,9,10,11,12,13,14,16,17,18,19,20] (by kernel_rfl) rfl (by refine t_y 15 ?_;refine t_l 8 ?_;refine t_f 7 ?_;refine t_l 6 ?_;refine t_f 5 ?_;refine t_m 2 ?_;refine t_m 1 ?_;exact Stl_nil rfl) rfl nb rfl (W1_wfK (W1_store rfl rfl Tsz.h rfl rfl gS4 rfl rfl rfl (fun h5 hU5 hW5=>?_)))
  have hEn5:=hU5.ext hEn4 hW1 (Nat.le_refl _)
  have gP5:=hU5.get (Ne.symm hne) gP4
  have k15:=hEn5.get hg1
  have gS5:=hU5.at'
  refine z_q ?_;refine z_f ?_
  refine Wp_eff [0,1,2,3,4,5,6,7,8,9,10,11,12,13,14,15,16,17,18,19,20,21,22,23] (by kernel_rfl) rfl (by refine t_y 15 ?_;refine t_l 8 ?_;refine t_f 7 ?_;refine t_m 2 ?_;exact Stl_nil rfl) rfl nb rfl (W1_wfK (W1_store rfl rfl Tsz.h rfl rfl gS5 rfl rfl rfl (fun h6 hU6 hW6=>?_)))
  have hEn:=hU6.ext hEn5 hW1 (Nat.le_refl _)
  have gSn:=hU6.at'
  refine Wp_end (Stl_nil rfl) nb' ?_
  clear gP gP4 gP5 k13 k14 k15 gS gS4 gS5 hEn3 hEn4 hEn5 hU4 hU5 hU6
  have k1:=hEn.get hg1
  have kB:=hEn.get hgB
  refine zy ?_
  refine Wc_draw hmix [0,0,2,6,14,30,62,0,128,384,1022,0,2048,6144,14336,30720,63488,0,131072,393216,917504,1966080,4063232,8386560,16777214,33554431,67108863,134217727] [0,1,2,3,4,5,6,7,8,9,10,11,12,13,14,15,16,17,18,19,20,21,22,23,24,25,26] (some 27) [([],none)] (by kernel_rfl) (by kernel_rfl) ?_
  refine z_m ?_;refine z_m ?_;refine z_q ?_;refine z_f ?_;refine z_f ?_;refine z_f ?_;refine z_l ?_;refine z_f ?_;refine z_l ?_;refine Wp_pure rfl rfl rfl rfl rfl (fun _=>A_quo rfl rfl (by omega) (day_tdiv (by omega)) (by omega) (by omega)) ?_;refine z_y ?_;refine z_m ?_;refine z_q ?_;refine z_f ?_;refine z_f ?_;refine z_f ?_;refine z_l ?_;refine z_m ?_;refine z_q ?_;refine z_f ?_;refine z_l ?_;refine z_u ?_;refine Wp_pure rfl rfl rfl rfl rfl (fun _=>A_quo rfl rfl (by omega) (day_tdiv (by omega)) (by omega) (by omega)) ?_;refine z_y ?_;refine z_b ?_;refine z_q ?_;refine z_f ?_
  refine Wp_eff [0,1,2,3,4,5,6,7,8,9,10,11,12,13,14,15,16,17,18,19,20,21,22,23,24,25,26] (by kernel_rfl) rfl (Stl_nil rfl) rfl nb rfl (W1_store rfl rfl Tsz.h rfl rfl gSn rfl rfl rfl (fun h9 hU9=>?_))
  refine Wp_end (Stl_nil rfl) nb' ?_
  have hE9:=hU9.ext hEn hW1 (Nat.le_refl _)
  have gS9:=hU9.at'
  refine zy ?_
  refine Wc_ret (Lv_ret rfl ⟨hE1.trans hE9,.inr ⟨hs0,h1.nx,rfl,?_,hE1.2.1⟩⟩)
  have e1:workS t s=Pk.work:=by unfold workS;rw[if_neg (by omega),hPk]
  have e2:versS t s=Pk.version:=by unfold versS;rw[if_neg (by omega),hPk]
  unfold ShowAt shRow daysS
  rw[e1,e2,hV,hEnd]
  exact gS9
end Go.Dw
/- H2: contracts: shown and long, package telecineref11. -/
namespace Go.Dw
open Go Go.Dx Go.Proofs
set_option maxRecDepth 100000
theorem refShown_sv {tc sr:List Value}{t:ScT}{s:ScS}{h:Heap}(ht:ScTAt h tc t)(hO:ScOk t)(hs:s.Fit)(hr:ScSR h sr s):Sv Tryz.prog 87 [.agg ⟨tc⟩,.agg ⟨sr⟩] h (RetP fun v h'=>v=i64 (shownErr t s)/\Ext h h'):=by
 obtain⟨al,cl,at',ct,a1,c1',a2,c2',a3,c3',a4,c4',a5,c5',a6,c6',rfl,m1,m2,m3,m4,m5,m6,m7,m8⟩:=ht
 obtain rfl:=hr
 obtain⟨s1,s2,s3,s4,s5,s6⟩:=hs
 unfold I64 at s1 s2 s3 s4 s5 s6
 have q1:=hO.venues1
 have q2:=hO.prints1
 have q3:=hO.packs1
 refine Sv_wf fun hw=>?_
 refine Sv_enter Tryz.func87 rfl (by rw[Tryz.ntmps87];rfl) ?_;show Wc Tryz.prog ⟨87,64,none⟩ _ _ _ _ _
 refine zy ?_
 refine Wo_box rfl rfl rfl fun h1 hE1 hW1 hg1 hn1=>?_
 refine Wo_box rfl rfl rfl fun h2 hE2 hW2 hg2 hn2=>?_
 replace hg1:=hE2.get hg1
 have hE:=hE1.trans hE2
 generalize h.nx=b1 at *
 generalize h1.nx=b2 at *
 refine zy ?_
 refine Wo_callP rfl rfl rfl rfl rfl Bod.h rfl rfl (in_sv _ _ _ _) (fun c1=>?_) (fun c1=>?_)
 rotate_left
 ·refine zy ?_
  exact Wc_ret (Lv_ret rfl ⟨by unfold shownErr;rw[if_pos (in_neg c1)];rfl,hE⟩)
 replace c1:=in_pos c1
 refine zy ?_
 refine Wo_do rfl rfl rfl rfl (A_eql rfl rfl) ?_
 refine zy ?_
 refine Wo_do rfl rfl rfl rfl (A_eql rfl rfl) ?_
 refine Wo_dec rfl rfl rfl rfl (A_eqlB Und.h rfl rfl) (fun c2=>?_) (fun c2=>?_)
 ·refine zy ?_
  exact Wc_ret (Lv_ret rfl ⟨by rw[shownErr_pair c1 c2];rfl,hE⟩)
 refine zy ?_
 by_cases hp:s.print = -1
 rotate_left
 ·have hk:s.pack = -1:=Classical.byContradiction fun hk=>c2 (by rw[decide_eq_false hp,decide_eq_false hk])
  refine Wo_do rfl rfl rfl rfl (A_tt hp (A_neq rfl rfl)) ?_
  refine zy ?_
  refine Wo_callP rfl rfl rfl rfl rfl Bod.h rfl rfl (in_sv _ _ _ _) (fun c3=>?_) (fun c3=>?_)
  rotate_left
  ·refine zy ?_
   exact Wc_ret (Lv_ret rfl ⟨by rw[shownErr_out c1 c2 (.inl ⟨hp,in_neg c3⟩)];rfl,hE⟩)
  replace c3:=in_pos c3
  replace c3:¬((s.print ≠ -1/\(s.print<0\/(t.prints.length:Int)-1<s.print))\/(s.pack ≠ -1/\(s.pack<0\/(t.packs.length:Int)-1<s.pack))):=by omega
  refine zy ?_
  refine Wo_do rfl rfl rfl rfl (A_ff (by omega) (A_neq rfl rfl)) ?_
  refine zy ?_
  refine Wo_callP rfl rfl rfl rfl rfl Bod.h rfl rfl (in_sv _ _ _ _) (fun c4=>?_) (fun c4=>?_)
  rotate_left
  ·refine zy ?_
   exact Wc_ret (Lv_ret rfl ⟨by rw[shownErr_rng c1 c2 c3,if_pos (.inl (in_neg c4))];rfl,hE⟩)
  refine zy ?_
  refine Wo_callP rfl rfl rfl rfl rfl Bod.h rfl rfl (in_sv _ _ _ _) (fun c5=>?_) (fun c5=>?_)
  rotate_left
  ·refine zy ?_
   exact Wc_ret (Lv_ret rfl ⟨by rw[shownErr_rng c1 c2 c3,if_pos (.inr (.inl (in_neg c5)))];rfl,hE⟩)
  refine zy ?_
  refine Wo_callP rfl rfl rfl rfl rfl Bod.h rfl rfl (in_sv _ _ _ _) (fun c6=>?_) (fun c6=>?_)
  rotate_left
  ·refine zy ?_
   exact Wc_ret (Lv_ret rfl ⟨by rw[shownErr_rng c1 c2 c3,if_pos (.inr (.inr (in_neg c6)))];rfl,hE⟩)
  refine zy ?_
  exact Wc_ret (Lv_ret rfl ⟨by rw[shownErr_rng c1 c2 c3,if_neg (fun x=>x.elim (in_pos c4) fun x=>x.elim (in_pos c5) (in_pos c6))];rfl,hE⟩)
 ·have hk:¬s.pack = -1:=fun hk=>c2 (by rw[decide_eq_true hp,decide_eq_true hk])
  refine Wo_do rfl rfl rfl rfl (A_ff (by omega) (A_neq rfl rfl)) ?_
  refine zy ?_
  refine Wo_do rfl rfl rfl rfl (A_tt hk (A_neq rfl rfl)) ?_
  refine zy ?_
  refine Wo_callP rfl rfl rfl rfl rfl Bod.h rfl rfl (in_sv _ _ _ _) (fun c3=>?_) (fun c3=>?_)
  rotate_left
  ·refine zy ?_
   exact Wc_ret (Lv_ret rfl ⟨by rw[shownErr_out c1 c2 (.inr ⟨hk,in_neg c3⟩)];rfl,hE⟩)
  replace c3:=in_pos c3
  replace c3:¬((s.print ≠ -1/\(s.print<0\/(t.prints.length:Int)-1<s.print))\/(s.pack ≠ -1/\(s.pack<0\/(t.packs.length:Int)-1<s.pack))):=by omega
  refine zy ?_
  refine Wo_callP rfl rfl rfl rfl rfl Bod.h rfl rfl (in_sv _ _ _ _) (fun c4=>?_) (fun c4=>?_)
  rotate_left
  ·refine zy ?_
   exact Wc_ret (Lv_ret rfl ⟨by rw[shownErr_rng c1 c2 c3,if_pos (.inl (in_neg c4))];rfl,hE⟩)
  refine zy ?_
  refine Wo_callP rfl rfl rfl rfl rfl Bod.h rfl rfl (in_sv _ _ _ _) (fun c5=>?_) (fun c5=>?_)
  rotate_left
  ·refine zy ?_
   exact Wc_ret (Lv_ret rfl ⟨by rw[shownErr_rng c1 c2 c3,if_pos (.inr (.inl (in_neg c5)))];rfl,hE⟩)
  refine zy ?_
  refine Wo_callP rfl rfl rfl rfl rfl Bod.h rfl rfl (in_sv _ _ _ _) (fun c6=>?_) (fun c6=>?_)
  rotate_left
  ·refine zy ?_
   exact Wc_ret (Lv_ret rfl ⟨by rw[shownErr_rng c1 c2 c3,if_pos (.inr (.inr (in_neg c6)))];rfl,hE⟩)
  refine zy ?_
  exact Wc_ret (Lv_ret rfl ⟨by rw[shownErr_rng c1 c2 c3,if_neg (fun x=>x.elim (in_pos c4) fun x=>x.elim (in_pos c5) (in_pos c6))];rfl,hE⟩)
theorem refLong_sv {tc sr:List Value}{t:ScT}{s:ScS}{h:Heap}(ht:ScTAt h tc t)(hO:ScOk t)(hs0:shownErr t s=0)(hr:ScSR h sr s):Sv Tryz.prog 88 [.agg ⟨tc⟩,.agg ⟨sr⟩] h (RetP fun v h'=>v=i64 (longS t s)/\Ext h h'):=by
 obtain⟨al,cl,at',ct,a1,c1',a2,c2',a3,c3',a4,c4',a5,c5',a6,c6',rfl,m1,m2,m3,m4,m5,m6,m7,m8⟩:=ht
 obtain rfl:=hr
 have q1:=hO.venues1
 have q2:=hO.prints1
 have q3:=hO.packs1
 obtain⟨⟨v1,v2⟩,hpp,-,⟨sp1,sp2⟩,-⟩:=shown_ok hs0
 obtain⟨-,⟨vp1,vp2⟩,⟨vc1,vc2⟩,-⟩:=venue_ok (ven_ok hO hs0)
 refine Sv_wf fun hw=>?_
 refine Sv_enter Tryz.func88 rfl (by rw[Tryz.ntmps88];rfl) ?_;show Wc Tryz.prog ⟨88,68,none⟩ _ _ _ _ _
 refine zy ?_
 refine Wo_box rfl rfl rfl fun h1 hE1 hW1 hg1 hn1=>?_
 refine Wo_box rfl rfl rfl fun h2 hE2 hW2 hg2 hn2=>?_
 replace hg1:=hE2.get hg1
 have hE:=hE1.trans hE2
 generalize h.nx=b1 at *
 generalize h1.nx=b2 at *
 clear hE1 hE2 hW1 hn1 hn2
 clear h1
 refine zy ?_
 by_cases hk:0<=s.pack
 ·obtain⟨bp,op,oap,rfl,hrp⟩:=pk_row (RowsAt.ext (R:=ScPkR) (fun x _=>x) m6 hE) (s:=s) hk (by omega)
  obtain⟨⟨l1,l2⟩,-⟩:=pack_ok (pk_ok hO hs0 hk)
  have hlong:longS t s=upS (upS (pkAt t s).frames s.speed) 60:=by unfold longS;rw[if_pos hk]
  have hcf:cellAt h2 bp (op+s.pack.toNat*5+3)=some (i64 (pkAt t s).frames):=cell_of_row hrp rfl
  generalize hPk:pkAt t s=Pk at *
  have hu:=upS_rng (a:=Pk.frames) (b:=s.speed) (by omega) (by omega)
  have hup:=fun h=>refUp_sv (a:=Pk.frames) (b:=s.speed) (by omega) (by omega) (by omega) (by omega) h
  generalize upS Pk.frames s.speed=N at *
  have hup2:=fun h=>refUp_sv (a:=N) (b:=60) (by omega) (by omega) (by omega) (by omega) h
  refine Wo_do rfl rfl rfl rfl (A_tt hk (A_geq rfl rfl)) ?_
  refine zy ?_
  refine Wc_draw hmix [0,1,0,4,15,31,63,0,128,511,1023,2047] [0,1,2,3,4,5,6,7,8] (some 9) [([],(some 10)),([],(some 11)),([],none)] (by kernel_rfl) (by kernel_rfl) ?_
  refine z_f ?_;refine z_l ?_;refine z_f ?_;refine z_l ?_;refine Wp_pure rfl rfl rfl rfl rfl (fun _=>A_indexAddr (k:=s.pack.toNat) Und.h Tsz.h rfl rfl (by omega) (by omega)) ?_;refine z_f ?_;refine z_l ?_;refine z_f ?_;refine z_l ?_
  refine Wp_eff [0,1,2,3,4,5,6,7,8] (by kernel_rfl) rfl (Stl_nil rfl) rfl nb rfl (W1_callV rfl rfl rfl rfl rfl Bod.h (hup _) ?_)
  refine Wp_eff [0,1,2,3,4,5,6,7,8,9] (by kernel_rfl) rfl (Stl_nil rfl) rfl nb rfl (W1_callV rfl rfl rfl rfl rfl Bod.h (hup2 _) ?_)
  refine Wp_eff [0,1,2,3,4,5,6,7,8,9,10] (by kernel_rfl) rfl (Stl_nil rfl) rfl nb rfl (W1_op rfl rfl (A_assign rfl) ?_)
  refine Wp_end (Stl_nil rfl) nb' ?_
  refine zy ?_
  exact Wc_ret (Lv_ret rfl ⟨by rw[hlong];rfl,hE⟩)
 have hprint:0<=s.print/\s.print<t.prints.length/\s.pack = -1:=by omega
 obtain⟨bp,op,oap,rfl,ap,cp,hrp,hI⟩:=pr_row (RowsAt.ext (R:=ScPR) (fun x y=>ScPR.ext x y) m5 hE) (s:=s) hprint.1 hprint.2.1
 obtain⟨⟨l1,l2⟩,l3,-,-⟩:=print_ok (pr_ok hO hs0 hprint.2.2)
 have hlong:longS t s=if (venAt t s).proj<2 then upS (secsS (prAt t s).reels s.speed) 60+(venAt t s).change*(((prAt t s).reels.length:Int)-1) else upS (secsS (prAt t s).reels s.speed) 60:=by unfold longS;rw[if_neg hk]
 have hsr:=secs_rng (l:=(prAt t s).reels) (speed:=s.speed) (by omega) l3
 have hcr:cellAt h2 bp (op+s.print.toNat*7+3)=some (.slice ap (prAt t s).reels.length cp):=cell_of_row hrp rfl
 obtain⟨bv,ov,oav,rfl,hrv⟩:=ven_row (RowsAt.ext (R:=ScVR) (fun x _=>x) m3 hE) (s:=s) v1 v2
 have hcv2:cellAt h2 bv (ov+s.venue.toNat*9+2)=some (i64 (venAt t s).proj):=cell_of_row hrv rfl
 have hcv5:cellAt h2 bv (ov+s.venue.toNat*9+5)=some (i64 (venAt t s).change):=cell_of_row hrv rfl
 generalize hPr:prAt t s=Pr at *
 generalize hV:venAt t s=V at *
 refine Wo_do rfl rfl rfl rfl (A_ff hk (A_geq rfl rfl)) ?_
 refine zy ?_
 refine Wo_do rfl rfl rfl rfl (A_indexAddr (k:=s.print.toNat) Und.h Tsz.h rfl rfl (by omega) (by omega)) ?_
 refine zy ?_
 refine Wc_loop (fun (k:Nat) m ds h'=>ds=[]/\h2=h'/\k<=Pr.reels.length ∧
   AllK m [(2,.pointer (some ⟨b1,0,none⟩)),(3,.pointer (some ⟨b2,0,none⟩)),(5,.slice ap Pr.reels.length cp),(6,i64 (secsS (Pr.reels.take k) s.speed)),(7,i64 k)]) (fun k=>Pr.reels.length-k) 0 ?_ ?_
 ·exact⟨rfl,rfl,Nat.zero_le _,rfl,rfl,rfl,rfl,rfl,trivial⟩
 rintro k m ds h' ⟨rfl,rfl,hk',hall⟩
 refine Wc.le ?_ (Le.kn hall)
 refine zy ?_
 refine Wo_dec rfl rfl rfl rfl (A_lss rfl rfl) (fun h4=>?_) (fun h4=>?_)
 ·have hk2:k<Pr.reels.length:=by simpa using h4
  obtain⟨b3,o3,oa3,rfl,hc3⟩:=hI k hk2
  have hn2:=l3 _ (List.getElem_mem hk2)
  have hss:secsS (Pr.reels.take (k+1)) s.speed=secsS (Pr.reels.take k) s.speed+upS Pr.reels[k] s.speed:=by
   unfold secsS
   rw[List.take_add_one,List.getElem?_eq_getElem hk2,List.map_append,List.sum_append];simp
  have hs2:=secs_rng (l:=Pr.reels.take k) (speed:=s.speed) (by omega) (fun n hn=>l3 n (List.mem_of_mem_take hn))
  rw[List.length_take,Nat.min_eq_left (by omega)] at hs2
  have hu:=upS_rng (a:=Pr.reels[k]) (b:=s.speed) (by omega) (by omega)
  have hup:=fun h=>refUp_sv (a:=Pr.reels[k]) (b:=s.speed) (by omega) (by omega) (by omega) (by omega) h
  generalize hmk:Pr.reels[k]=x at *
  generalize upS x s.speed=u at *
  generalize secsS (Pr.reels.take k) s.speed=z at *
  refine zy ?_
  refine Wc_draw hmix [0,0,0,6,14,0,32,126,255,511] [0,1,2,3,4,5,6] (some 7) [([8],(some 9)),([],none)] (by kernel_rfl) (by kernel_rfl) ?_
  refine z_m ?_;refine z_m ?_;refine z_m ?_;refine z_i ?_;refine z_l ?_;refine z_f ?_;refine z_l ?_
  refine Wp_eff [1,2,3,4,5,6] (by kernel_rfl) rfl (Stl_nil rfl) rfl nb rfl (W1_callV rfl rfl rfl rfl rfl Bod.h (hup _) ?_)
  refine z_y ?_
  refine Wp_eff [0,1,2,3,4,5,6,7,8] (by kernel_rfl) rfl (by refine t_m 0 ?_;exact Stl_nil rfl) rfl nb rfl (W1_op rfl rfl (A_assign rfl) ?_)
  refine Wp_end (Stl_nil rfl) nb' ?_
  refine zy ?_
  refine⟨k+1,(by show Pr.reels.length-(k+1)<Pr.reels.length-k;omega),rfl,rfl,hk2,rfl,rfl,rfl,?_,rfl,trivial⟩
  rw[hss];rfl
 have hk2:k=Pr.reels.length:=by omega
 subst hk2
 rw[List.take_length]
 clear hk'
 have hup:=fun h=>refUp_sv (a:=secsS Pr.reels s.speed) (b:=60) (by omega) (by omega) (by omega) (by omega) h
 have hu:=upS_rng (a:=secsS Pr.reels s.speed) (b:=60) (by omega) (by omega)
 generalize hZ:secsS Pr.reels s.speed=Z at *
 generalize hN:upS Z 60=N at *
 clear hall h4
 refine zy ?_
 refine Wo_callV rfl rfl rfl rfl rfl Bod.h rfl rfl (hup _) ?_
 refine zy ?_
 refine Wo_do rfl rfl rfl rfl (A_indexAddr (k:=s.venue.toNat) Und.h Tsz.h rfl rfl (by omega) (by omega)) ?_
 refine zy ?_
 by_cases c7:V.proj<2
 ·rw[if_pos c7] at hlong
  have hmul:0<=V.change*((Pr.reels.length:Int)-1):=Int.mul_nonneg vc1 (by omega)
  have hmul2:V.change*((Pr.reels.length:Int)-1)<=60*11:=Int.mul_le_mul vc2 (by omega) (by omega) (by decide)
  generalize hM:V.change*((Pr.reels.length:Int)-1)=M at *
  refine Wo_do rfl rfl rfl rfl (A_tt c7 (A_lss rfl rfl)) ?_
  refine zy ?_
  refine Wo_do rfl rfl rfl rfl (A_indexAddr (k:=s.venue.toNat) Und.h Tsz.h rfl rfl (by omega) (by omega)) ?_
  refine zy ?_
  refine Wo_do rfl rfl rfl rfl (A_mulV rfl rfl hM (by omega) (by omega)) ?_
  refine zy ?_
  exact Wc_ret (Lv_ret rfl ⟨by rw[hlong];rfl,hE⟩)
 ·rw[if_neg c7] at hlong
  refine Wo_do rfl rfl rfl rfl (A_ff c7 (A_lss rfl rfl)) ?_
  refine zy ?_
  exact Wc_ret (Lv_ret rfl ⟨by rw[hlong];rfl,hE⟩)
end Go.Dw
/- H3: contracts: why a show may not be, package screen. -/
namespace Go.Dw
open Go Go.Dx Go.Proofs
set_option maxRecDepth 100000
def rOk (W V:List UInt8)(land:Int)(D:Sp)(r:ScR):Bool:=decide (r.work=W/\(r.version=[]\/r.version=V)/\r.land=land/\inSp D r.days)
theorem ShowAt.row {h:Heap}{b bH:Nat}{t:ScT}{s:ScS}(a:ShowAt h b bH t s):h.get b=some (.cells [i64 s.venue,i64 s.print,i64 s.pack,i64 s.minute,i64 s.speed,i64 s.worth,.pointer (some ⟨bH,0,none⟩),str (workS t s),str (versS t s),
 str (venAt t s).name,i64 (venAt t s).land,i64 (venAt t s).proj,i64 (venAt t s).speeds.lo,i64 (venAt t s).speeds.hi,i64 (venAt t s).change,i64 (venAt t s).spool,i64 (venAt t s).turn,.bool (venAt t s).digital,i64 (endS t s),i64 (daysS t s).lo,i64 (daysS t s).hi] 156 false):=a
def lOk (s:ScS)(D:Sp)(l:ScL):Bool:=decide (l.print=s.print/\l.venue=s.venue/\inSp D l.days)
def kOk (s:ScS)(D:Sp)(k:ScK):Bool:=decide (k.pack=s.pack/\k.venue=s.venue/\inSp D k.window)
def maxL:List Int->Int
 | []=>0
 | x::l=>l.foldl max x
end Go.Dw
/- H4: contracts: why a show may not be, package telecineref11. -/
namespace Go.Dw
open Go Go.Dx Go.Proofs
set_option maxRecDepth 100000
end Go.Dw
/- H5: contracts: Long and May, packages screen and telecineref11. -/
namespace Go.Dw
open Go Go.Dx Go.Proofs
set_option maxRecDepth 100000
def longV (t:ScT)(s:ScS):Int×Int:=if errSc t=0 then if shownErr t s=0 then (longS t s,0) else (0,shownErr t s) else (0,errSc t)
def mayV (t:ScT)(s:ScS):Int×Int:=if errSc t=0 then if shownErr t s=0 then (whyS t s,0) else (0,shownErr t s) else (0,errSc t)
theorem scLong_sv {tc sr:List Value}{t:ScT}{s:ScS}{h:Heap}(ht:ScTAt h tc t)(hT:t.Fit)(hs:s.Fit)(hr:ScSR h sr s):Sv Tryz.prog 24 [.agg ⟨tc⟩,.agg ⟨sr⟩] h (RetP fun v h'=>v=.tuple ⟨[i64 (longV t s).1,i64 (longV t s).2]⟩/\Ext h h'):=by
 have ht0:=ht
 obtain⟨al,cl,at',ct,a1,c1,a2,c2,a3,c3,a4,c4,a5,c5,a6,c6,rfl,-⟩:=ht
 obtain rfl:=hr
 refine Sv_wf fun hw=>?_
 refine Sv_enter Tryz.func24 rfl (by rw[Tryz.ntmps24];rfl) ?_;show Wc Tryz.prog ⟨24,36,none⟩ _ _ _ _ _
 refine zy ?_
 refine Wo_box rfl rfl rfl fun h1 hE1 hW1 hg1 hn1=>?_
 refine Wo_box rfl rfl rfl fun h2 hE2 hW2 hg2 hn2=>?_
 replace hg1:=hE2.get hg1
 have hE:=hE1.trans hE2
 generalize h.nx=b1 at *
 generalize h1.nx=b2 at *
 clear hE1 hE2 hW1 hn1 hn2
 refine zy ?_
 refine Wo_callr rfl rfl rfl rfl rfl Bod.h rfl rfl (open_sv (ht0.ext hE) hT) ?_
 rintro v h3 ⟨hE3,⟨he,rfl⟩|⟨he,bH,rfl,hH⟩⟩
 ·refine zy ?_
  refine Wo_dec rfl rfl rfl rfl (A_neq rfl rfl) (fun h4=>?_) (fun h4=>?_)
  ·refine zy ?_
   exact Wc_ret (Lv_ret rfl ⟨by unfold longV;rw[if_neg he];rfl,hE.trans hE3⟩)
  ·exact absurd (Decidable.not_not.1 h4) he
 have hO:=sc_ok he
 replace hg2:=hE3.get hg2
 refine zy ?_
 refine Wo_dec rfl rfl rfl rfl (A_neq rfl rfl) (fun h4=>?_) (fun h4=>?_)
 ·exact absurd rfl h4
 refine zy ?_
 refine Wo_callr rfl rfl rfl rfl rfl Bod.h rfl rfl (enter_sv hH hO hs rfl) ?_
 rintro v h5 ⟨hE5,⟨hs0,rfl⟩|⟨hs0,bS,rfl,hS,-⟩⟩
 ·refine zy ?_
  refine Wo_dec rfl rfl rfl rfl (A_neq rfl rfl) (fun h6=>?_) (fun h6=>?_)
  ·refine zy ?_
   exact Wc_ret (Lv_ret rfl ⟨by unfold longV;rw[if_pos he,if_neg hs0];rfl,hE.trans (hE3.trans hE5)⟩)
  ·exact absurd (Decidable.not_not.1 h6) hs0
 refine zy ?_
 refine Wo_dec rfl rfl rfl rfl (A_neq rfl rfl) (fun h6=>?_) (fun h6=>?_)
 ·exact absurd rfl h6
 have hgS:=hS.row
 have hlr:=long_rng hO hs0
 obtain⟨-,-,⟨mi1,mi2⟩,-⟩:=shown_ok hs0
 have hEnd:endS t s-s.minute=longS t s:=by unfold endS;omega
 have hv:longV t s=(longS t s,0):=by unfold longV;rw[if_pos he,if_pos hs0]
 rw[hv,<-hEnd]
 rw[<-hEnd] at hlr
 generalize endS t s=E at *
 refine zy ?_
 refine Wc_draw hmix [0,1,3,7,0,16,48,112,240,511,1023,2047] [0,1,2,3,4,5,6,7,8,9] (some 10) [([],(some 11)),([],none)] (by kernel_rfl) (by kernel_rfl) ?_
 refine z_m ?_;refine z_q ?_;refine z_f ?_;refine z_l ?_;refine z_m ?_;refine z_q ?_;refine z_f ?_;refine z_f ?_;refine z_l ?_;refine z_u ?_
 refine Wp_eff [0,1,2,3,4,5,6,7,8,9] (by kernel_rfl) rfl (Stl_nil rfl) rfl nb rfl (W1_op rfl rfl (A_assign rfl) ?_)
 refine Wp_eff [0,1,2,3,4,5,6,7,8,9,10] (by kernel_rfl) rfl (Stl_nil rfl) rfl nb rfl (W1_op rfl rfl (A_assign rfl) ?_)
 refine Wp_end (Stl_nil rfl) nb' ?_
 refine zy ?_
 exact Wc_ret (Lv_ret rfl ⟨rfl,hE.trans (hE3.trans hE5)⟩)
theorem refScLong_sv {tc sr:List Value}{t:ScT}{s:ScS}{h:Heap}(ht:ScTAt h tc t)(hT:t.Fit)(hs:s.Fit)(hr:ScSR h sr s):Sv Tryz.prog 25 [.agg ⟨tc⟩,.agg ⟨sr⟩] h (RetP fun v h'=>v=.tuple ⟨[i64 (longV t s).1,i64 (longV t s).2]⟩/\Ext h h'):=by
 have ht0:=ht
 obtain⟨al,cl,at',ct,a1,c1,a2,c2,a3,c3,a4,c4,a5,c5,a6,c6,rfl,-⟩:=ht
 obtain rfl:=hr
 refine Sv_wf fun hw=>?_
 refine Sv_enter Tryz.func25 rfl (by rw[Tryz.ntmps25];rfl) ?_;show Wc Tryz.prog ⟨25,20,none⟩ _ _ _ _ _
 refine zy ?_
 refine Wo_box rfl rfl rfl fun h1 hE1 hW1 hg1 hn1=>?_
 refine Wo_box rfl rfl rfl fun h2 hE2 hW2 hg2 hn2=>?_
 replace hg1:=hE2.get hg1
 have hE:=hE1.trans hE2
 generalize h.nx=b1 at *
 generalize h1.nx=b2 at *
 clear hE1 hE2 hW1 hn1 hn2
 refine zy ?_
 refine Wo_callE rfl rfl rfl rfl rfl Bod.h rfl rfl (refValid_sv (ht0.ext hE) hT) fun h3 hE3=>?_
 replace hg1:=hE3.get hg1
 replace hg2:=hE3.get hg2
 replace hE:=hE.trans hE3
 refine zy ?_
 refine Wo_dec rfl rfl rfl rfl (A_eql rfl rfl) (fun h4=>?_) (fun h4=>?_)
 rotate_left
 ·refine zy ?_
  refine Wo_dec rfl rfl rfl rfl (A_neq rfl rfl) (fun h5=>?_) (fun h5=>?_)
  ·refine zy ?_
   exact Wc_ret (Lv_ret rfl ⟨by unfold longV;rw[if_neg h4];rfl,hE⟩)
  ·exact absurd (Decidable.not_not.1 h5) h4
 have hO:=sc_ok h4
 refine zy ?_
 refine Wo_callE rfl rfl rfl rfl rfl Bod.h rfl rfl (refShown_sv (ht0.ext hE) hO hs rfl) fun h5 hE5=>?_
 replace hg1:=hE5.get hg1
 replace hg2:=hE5.get hg2
 replace hE:=hE.trans hE5
 refine zy ?_
 refine Wo_dec rfl rfl rfl rfl (A_neq rfl rfl) (fun h6=>?_) (fun h6=>?_)
 ·refine zy ?_
  exact Wc_ret (Lv_ret rfl ⟨by unfold longV;rw[if_pos h4,if_neg h6];rfl,hE⟩)
 replace h6:=Decidable.not_not.1 h6
 refine zy ?_
 refine Wo_callE rfl rfl rfl rfl rfl Bod.h rfl rfl (refLong_sv (ht0.ext hE) hO h6 rfl) fun h7 hE7=>?_
 refine zy ?_
 exact Wc_ret (Lv_ret rfl ⟨by unfold longV;rw[if_pos h4,if_pos h6];rfl,hE.trans hE7⟩)
end Go.Dw
/- H6: contracts: shows in a list, package screen: over, disturbs, all, Play. -/
namespace Go.Dw
open Go Go.Dx Go.Proofs
set_option maxRecDepth 100000
abbrev ptrB (b:Nat):Value:=.pointer (some ⟨b,0,none⟩)
def ptrZ (z:Nat×ScS):Value:=.pointer (some ⟨z.1,0,none⟩)
def ShowsP (h:Heap)(bH:Nat)(t:ScT)(zs:List (Nat×ScS)):Prop:=∀z∈zs,ShowAt h z.1 bH t z.2
theorem ShowsP.ext {h h':Heap}{bH:Nat}{t:ScT}{zs:List (Nat×ScS)}(a:ShowsP h bH t zs)(he:Ext h h'):ShowsP h' bH t zs:=fun z hz=>he.get (a z hz)
def shI (bH:Nat)(t:ScT)(zs:List (Nat×ScS)):It where
 S:=fun c=>c∈zs.map Prod.fst
 p:=fun h=>ShowsP h bH t zs
 loc:=fun hk hp z hz=>hk _ _ (List.mem_map_of_mem hz) (hp z hz)
 ex:=fun hp hc=>by obtain⟨z,hz,rfl⟩:=List.mem_map.1 hc;exact⟨_,hp z hz⟩
def shVs (s:ScS):List Value:=[i64 s.venue,i64 s.print,i64 s.pack,i64 s.minute,i64 s.speed,i64 s.worth]
def allErr (t:ScT)(l:List ScS):Int:=if 40<l.length then 3 else match l.find? fun s=>decide (shownErr t s≠0) with|some s=>shownErr t s|none=>0
def AllR (t:ScT)(l:List ScS)(bH:Nat)(h:Heap)(v:Value)(h':Heap):Prop:=Ext h h'/\((¬allErr t l=0/\v=.tuple ⟨[.slice none 0 0,i64 (allErr t l)]⟩)\/(allErr t l=0/\∃va zs,v=.tuple ⟨[va,i64 0]⟩/\zs.map Prod.snd=l/\Own h h' [slI h va 152 1 (zs.map ptrZ) zs.length,shI bH t zs]/\(zs.map Prod.fst).Nodup))
def PlayR (t:ScT)(l:List ScS)(h:Heap)(v:Value)(h':Heap):Prop:=Ext h h'/\((¬listedS t l=0/\v=.tuple ⟨[.slice none 0 0,.slice none 0 0,i64 (listedS t l)]⟩)\/(listedS t l=0/\∃va vb,v=.tuple ⟨[va,vb,i64 0]⟩/\FreshSl h h' va 42 6 ((playS t l).1.flatMap shVs) (playS t l).1.length/\FreshSl h h' vb 32 1 ((playS t l).2.map i64) (playS t l).2.length))
end Go.Dw
/- H7: contracts: shows in a list, package telecineref11: over, Disturb, listed, Play, Shows. -/
namespace Go.Dw
open Go Go.Dx Go.Proofs
set_option maxRecDepth 100000
end Go.Dw
/- H8: contracts: two lists of shows compared; parts of lists that may be empty. -/
namespace Go.Dw
open Go Go.Dx Go.Proofs
set_option maxRecDepth 100000
theorem ScS.ext' {a b:ScS}(h1:a.venue=b.venue)(h2:a.print=b.print)(h3:a.pack=b.pack)(h4:a.minute=b.minute)(h5:a.speed=b.speed)(h6:a.worth=b.worth):a=b:=by
 cases a;cases b;simp_all
instance:DecidableEq ScS:=fun a b=>decidable_of_iff (a.venue=b.venue/\a.print=b.print/\a.pack=b.pack/\a.minute=b.minute/\a.speed=b.speed/\a.worth=b.worth) ⟨fun ⟨h1,h2,h3,h4,h5,h6⟩=>ScS.ext' h1 h2 h3 h4 h5 h6,fun h=>by subst h;simp⟩
end Go.Dw
