/- H1: contracts: screen.up, a show in memory, enter. -/
import Derived.Laws.StructEq
import Derived.Test.YtfgeelpahicelaaGreatDoorWG2
import Derived.Test.YtfgeelpahicelaaGreatDoorWG9
set_option linter.unusedVariables false
set_option linter.unusedSimpArgs false
namespace Go.Dw
open Go Go.Dx Go.Proofs
set_option maxRecDepth 100000
theorem upS_rng {a b:Int}(ha:0<=a)(hb:1<=b):0<=upS a b/\upS a b<=a+b:=by
 unfold upS
 have h1:=Int.ediv_nonneg (show 0<=a+b-1 by omega) (show 0<=b by omega)
 have h2:=Int.ediv_le_self b (show 0<=a+b-1 by omega)
 omega
theorem upS_tdiv {a b:Int}(ha:0<=a)(hb:1<=b):(a+b-1).tdiv b=upS a b:=Int.tdiv_eq_ediv_of_nonneg (by omega)
theorem day_tdiv {a:Int}(ha:0<=a):a.tdiv 1440=a / 1440:=Int.tdiv_eq_ediv_of_nonneg ha
theorem up_sv {a b:Int}(ha:0<=a)(ha':a<=1000000000)(hb:1<=b)(hb':b<=10000)(h:Heap):Sv Tryz.prog 141 [i64 a,i64 b] h (RetP fun v h'=>v=i64 (upS a b)/\h'=h):=by
 have e:=upS_tdiv ha hb
 have hr:=upS_rng ha hb
 refine Sv_enter Tryz.func141 rfl (by rw[Tryz.ntmps141];rfl) ?_;show Wc Tryz.prog ⟨141,11,none⟩ _ _ _ _ _
 refine zy ?_
 refine Wo_do rfl rfl rfl rfl (A_quo rfl rfl (by omega) e (by omega) (by omega)) ?_
 refine zy ?_
 exact Wc_ret (Lv_ret rfl ⟨rfl,rfl⟩)
def shRow (t:ScT)(s:ScS)(bH:Nat):List Value:=[i64 s.venue,i64 s.print,i64 s.pack,i64 s.minute,i64 s.speed,i64 s.worth,.pointer (some ⟨bH,0,none⟩),str (workS t s),str (versS t s),
 str (venAt t s).name,i64 (venAt t s).land,i64 (venAt t s).proj,i64 (venAt t s).speeds.lo,i64 (venAt t s).speeds.hi,i64 (venAt t s).change,i64 (venAt t s).spool,i64 (venAt t s).turn,.bool (venAt t s).digital,i64 (endS t s),i64 (daysS t s).lo,i64 (daysS t s).hi]
def ShowAt (h:Heap)(b bH:Nat)(t:ScT)(s:ScS):Prop:=h.get b=some (.cells (shRow t s bH) 156 false)
theorem ShowAt.ext {h h':Heap}{b bH:Nat}{t:ScT}{s:ScS}(a:ShowAt h b bH t s)(he:Ext h h'):ShowAt h' b bH t s:=he.get a
theorem Wc_add {P:Program}{fr:Fr}{c:Code}{m:Mem}{ds:List ADef}{h:Heap}{Q:CQ}{o:AO}(hw:WF h)(k:∀h2,Ext h h2->WF h2->h2.get h.nx=some o->Wc P fr c m ds h2 Q):Wc P fr c m ds (h.add o) Q :=
 k _ (Ext.add hw o) (hw.add o) Heap.get_add_same
theorem ven_row {h:Heap}{a:Option Addr}{t:ScT}(m3:RowsAt 9 ScVR h a t.venues){s:ScS}(h0:0<=s.venue)(h1:s.venue<t.venues.length):∃b o oa,a=some ⟨b,o,oa⟩/\rowAt h b (o+s.venue.toNat*9) 9=some [str (venAt t s).name,i64 (venAt t s).land,i64 (venAt t s).proj,i64 (venAt t s).speeds.lo,i64 (venAt t s).speeds.hi,i64 (venAt t s).change,i64 (venAt t s).spool,i64 (venAt t s).turn,.bool (venAt t s).digital]:=by
 obtain⟨b,o,oa,e,row,hrow,hr⟩:=m3 s.venue.toNat (by omega)
 obtain rfl:=hr
 have:venAt t s=t.venues[s.venue.toNat]:=by unfold venAt;rw[List.getD_eq_getElem?_getD,List.getElem?_eq_getElem (by omega)];rfl
 rw[this]
 exact⟨b,o,oa,e,hrow⟩
theorem pr_row {h:Heap}{a:Option Addr}{t:ScT}(m5:RowsAt 7 ScPR h a t.prints){s:ScS}(h0:0<=s.print)(h1:s.print<t.prints.length):∃b o oa,a=some ⟨b,o,oa⟩/\∃ap cp,rowAt h b (o+s.print.toNat*7) 7=some [str (prAt t s).name,str (prAt t s).work,str (prAt t s).version,.slice ap (prAt t s).reels.length cp,i64 (prAt t s).speeds.lo,i64 (prAt t s).speeds.hi,i64 (prAt t s).land]/\IntsAt h ap (prAt t s).reels:=by
 obtain⟨b,o,oa,e,row,hrow,ap,cp,hr,hI⟩:=m5 s.print.toNat (by omega)
 subst hr
 have:prAt t s=t.prints[s.print.toNat]:=by unfold prAt;rw[List.getD_eq_getElem?_getD,List.getElem?_eq_getElem (by omega)];rfl
 rw[this]
 exact⟨b,o,oa,e,ap,cp,hrow,hI⟩
theorem pk_row {h:Heap}{a:Option Addr}{t:ScT}(m6:RowsAt 5 ScPkR h a t.packs){s:ScS}(h0:0<=s.pack)(h1:s.pack<t.packs.length):∃b o oa,a=some ⟨b,o,oa⟩/\rowAt h b (o+s.pack.toNat*5) 5=some [str (pkAt t s).name,str (pkAt t s).work,str (pkAt t s).version,i64 (pkAt t s).frames,i64 (pkAt t s).speed]:=by
 obtain⟨b,o,oa,e,row,hrow,hr⟩:=m6 s.pack.toNat (by omega)
 obtain rfl:=hr
 have:pkAt t s=t.packs[s.pack.toNat]:=by unfold pkAt;rw[List.getD_eq_getElem?_getD,List.getElem?_eq_getElem (by omega)];rfl
 rw[this]
 exact⟨b,o,oa,e,hrow⟩
theorem shownErr_pair {t:ScT}{s:ScS}(c1:¬(s.venue<0\/(t.venues.length:Int)-1<s.venue))(c2:decide (s.print = -1)=decide (s.pack = -1)):shownErr t s=2:=by
 unfold shownErr;rw[if_neg c1,if_pos (by rwa [decide_eq_decide] at c2)]
theorem shownErr_out {t:ScT}{s:ScS}(c1:¬(s.venue<0\/(t.venues.length:Int)-1<s.venue))(c2:¬decide (s.print = -1)=decide (s.pack = -1))(c3:(s.print ≠ -1/\(s.print<0\/(t.prints.length:Int)-1<s.print))\/(s.pack ≠ -1/\(s.pack<0\/(t.packs.length:Int)-1<s.pack))):shownErr t s=4:=by
 unfold shownErr;rw[if_neg c1,if_neg (by rwa [decide_eq_decide] at c2),if_pos c3]
theorem shownErr_rng {t:ScT}{s:ScS}(c1:¬(s.venue<0\/(t.venues.length:Int)-1<s.venue))(c2:¬decide (s.print = -1)=decide (s.pack = -1))(c3:¬((s.print ≠ -1/\(s.print<0\/(t.prints.length:Int)-1<s.print))\/(s.pack ≠ -1/\(s.pack<0\/(t.packs.length:Int)-1<s.pack)))):shownErr t s=if (s.minute<0\/57600<s.minute)\/(s.speed<1\/60<s.speed)\/(s.worth<0\/1000000<s.worth) then 7 else 0:=by
 unfold shownErr;rw[if_neg c1,if_neg (by rwa [decide_eq_decide] at c2),if_neg c3]
def EnterR (t:ScT)(s:ScS)(bH:Nat)(h:Heap)(v:Value)(h':Heap):Prop:=Ext h h'/\((¬shownErr t s=0/\v=.tuple ⟨[.pointer none,i64 (shownErr t s)]⟩)\/(shownErr t s=0/\∃b,v=.tuple ⟨[.pointer (some ⟨b,0,none⟩),i64 0]⟩/\ShowAt h' b bH t s/\h.nx<=b))
theorem enter_err {t:ScT}{s:ScS}{bH:Nat}{h h':Heap}{e:Int}(he:shownErr t s=e)(h0:e≠0)(hE:Ext h h'):EnterR t s bH h (.tuple ⟨[.pointer none,i64 e]⟩) h':=⟨hE,.inl ⟨by rw[he];exact h0,by rw[he]⟩⟩
theorem fill21 (x0 x1 x2 x3 x4 x5:Value)(a:Option Addr)(v0 v1 v2 v3 v4 v5 v6 v7 v8:Value) :
  Instr.fill ([(0,6),(6,1),(7,1),(8,1),(9,9),(18,1),(19,2)].toArray[·]?) (Value.agg ⟨[i64 0,i64 0,i64 0,i64 0,i64 0,i64 0,.pointer none,str [],str [],str [],i64 0,i64 0,i64 0,i64 0,i64 0,i64 0,i64 0,.bool false,i64 0,i64 0,i64 0]⟩).cells [(0,.agg ⟨[x0,x1,x2,x3,x4,x5]⟩),(1,.pointer a),(4,.agg ⟨[v0,v1,v2,v3,v4,v5,v6,v7,v8]⟩)]=some ⟨[x0,x1,x2,x3,x4,x5,.pointer a,str [],str [],v0,v1,v2,v3,v4,v5,v6,v7,v8,i64 0,i64 0,i64 0]⟩:=by kernel_rfl
set_option maxHeartbeats 2000000 in
theorem enter_sv {bH:Nat}{t:ScT}{s:ScS}{sr:List Value}{h:Heap}(hH:HouseAt h bH t)(hO:ScOk t)(hs:s.Fit)(hr:ScSR h sr s):Sv Tryz.prog 86 [.pointer (some ⟨bH,0,none⟩),.agg ⟨sr⟩] h (RetP (EnterR t s bH h)):=by
 obtain⟨row,ag,cg,aw,cw,ht,hgH,-,-⟩:=hH
 obtain⟨al,cl,at',ct,a1,c1',a2,c2',a3,c3',a4,c4',a5,c5',a6,c6',rfl,m1,m2,m3,m4,m5,m6,m7,m8⟩:=ht
 replace hgH:h.get bH=some (.cells [i64 t.first,.slice al t.lands.length cl,.slice at' t.travel.length ct,.slice a1 t.venues.length c1',.slice a2 t.rights.length c2',.slice a3 t.prints.length c3',.slice a4 t.packs.length c4',.slice a5 t.keys.length c5',.slice a6 t.loans.length c6',.slice ag (loansS t).1.length cg,.slice aw (loansS t).2.length cw] 147 false):=hgH
 obtain rfl:=hr
 obtain⟨s1,s2,s3,s4,s5,s6⟩:=hs
 unfold I64 at s1 s2 s3 s4 s5 s6
 have q1:=hO.venues1
 have q2:=hO.prints1
 have q3:=hO.packs1
 have q4:=hO.first
 refine Sv_wf fun hw=>?_
 refine Sv_enter Tryz.func86 rfl (by rw[Tryz.ntmps86];rfl) ?_;show Wc Tryz.prog ⟨86,223,none⟩ _ _ _ _ _
 refine zy ?_
 refine Wo_box rfl rfl rfl fun h1 hE1 hW1 hg1 hn1=>?_
 have hgB:=hE1.get hgH
 generalize h.nx=b1 at *
 refine zy ?_
 by_cases c1:s.venue<0\/(t.venues.length:Int)-1<s.venue
 ·refine Wc_draw hmix [0,1,0,4,12,28,60,124,252,508,1023,2047] [0,1,2,3,4,5,6,7,8,9] (some 10) [([],(some 11)),([],none)] (by kernel_rfl) (by kernel_rfl) ?_
  refine z_f ?_;refine z_l ?_;refine z_m ?_;refine z_q ?_;refine z_f ?_;refine z_f ?_;refine z_f ?_;refine z_l ?_;refine z_c ?_;refine z_u ?_
  refine Wp_eff [0,1,2,3,4,5,6,7,8,9] (by kernel_rfl) rfl (Stl_nil rfl) rfl nb rfl (W1_callV rfl rfl rfl rfl rfl Bod.h (Sv_tt c1 (out_sv _ _ _ _)) ?_)
  refine Wp_eff [0,1,2,3,4,5,6,7,8,9,10] (by kernel_rfl) rfl (Stl_nil rfl) rfl nb rfl (W1_op rfl rfl (A_assign rfl) ?_)
  refine Wp_end (Stl_nil rfl) nb' ?_
  refine zy ?_
  exact Wc_ret (Lv_ret rfl (enter_err (by unfold shownErr;rw[if_pos c1]) (by decide) hE1))
 refine Wc_draw hmix [0,1,0,4,12,28,60,124,252,508,1023,2047] [0,1,2,3,4,5,6,7,8,9] (some 10) [([],(some 11)),([],none)] (by kernel_rfl) (by kernel_rfl) ?_
 refine z_f ?_;refine z_l ?_;refine z_m ?_;refine z_q ?_;refine z_f ?_;refine z_f ?_;refine z_f ?_;refine z_l ?_;refine z_c ?_;refine z_u ?_
 refine Wp_eff [0,1,2,3,4,5,6,7,8,9] (by kernel_rfl) rfl (Stl_nil rfl) rfl nb rfl (W1_callV rfl rfl rfl rfl rfl Bod.h (Sv_ff c1 (out_sv _ _ _ _)) ?_)
 refine Wp_eff [0,1,2,3,4,5,6,7,8,9,10] (by kernel_rfl) rfl (Stl_nil rfl) rfl nb rfl (W1_op rfl rfl (A_assign rfl) ?_)
 refine Wp_end (Stl_nil rfl) nb' ?_
 refine zy ?_
 refine Wo_do rfl rfl rfl rfl (A_eql rfl rfl) ?_
 refine zy ?_
 refine Wo_do rfl rfl rfl rfl (A_eql rfl rfl) ?_
 refine Wo_dec rfl rfl rfl rfl (A_eqlB Und.h rfl rfl) (fun c2=>?_) (fun c2=>?_)
 ·refine zy ?_
  exact Wc_ret (Lv_ret rfl (enter_err (shownErr_pair c1 c2) (by decide) hE1))
 refine zy ?_
 by_cases hp:s.print = -1
 rotate_left
 ·have hk:s.pack = -1:=Classical.byContradiction fun hk=>c2 (by rw[decide_eq_false hp,decide_eq_false hk])
  by_cases c3:s.print<0\/(t.prints.length:Int)-1<s.print
  ·refine Wc_draw hmix [0,1,3,7,15,31,15,79,207,463,975,1999,4047,8143,16383,32767,65535,131071,262143,524287,1048575,2097151,4194303,2097151,10485759,27262975,60817407,127926271,262143999,530579455,1067450367,2147483647,4294967295,8589934591,17179869183] [0,1,2,3,4,5,6,7,8,9,10,11,12,13] (some 14) [([15,16,17,18,19,20,21,22,23,24,25,26,27,28,29,30],(some 31)),([32,33],(some 34)),([],none)] (by kernel_rfl) (by kernel_rfl) ?_
   refine z_f ?_;refine z_l ?_;refine Wp_pure rfl rfl rfl rfl rfl (fun _=>A_tt hp (A_neq rfl rfl)) ?_;refine z_m ?_;refine g_f ?_;refine g_l ?_;refine g_m ?_;refine g_q ?_;refine g_f ?_;refine g_f ?_;refine g_f ?_;refine g_l ?_;refine g_c ?_;refine g_u ?_
   refine Wp_eff [0,1,2,3,4,5,6,7,8,9,10,11,12,13] (by kernel_rfl) rfl (Stl_nil rfl) rfl nb rfl (W1_callV rfl rfl rfl rfl rfl Bod.h (Sv_tt c3 (out_sv _ _ _ _)) ?_)
   refine z_p ?_;refine z_m ?_;refine g_f ?_;refine g_l ?_;refine z_o ?_;refine g_m ?_;refine g_f ?_;refine g_l ?_;refine g_m ?_;refine g_q ?_;refine g_f ?_;refine g_f ?_;refine g_f ?_;refine g_l ?_;refine g_c ?_;refine g_u ?_
   refine Wp_eff [0,1,2,3,4,5,6,7,8,9,10,11,12,13,14,15,16,17,18,19,20,21,22,23,24,25,26,27,28,29,30] (by kernel_rfl) rfl (Stl_nil rfl) rfl nb rfl (W1_off rfl ?_)
   refine g_p ?_;refine z_p ?_
   refine Wp_eff [0,1,2,3,4,5,6,7,8,9,10,11,12,13,14,15,16,17,18,19,20,21,22,23,24,25,26,27,28,29,30,31,32,33] (by kernel_rfl) rfl (Stl_nil rfl) rfl nb rfl (W1_op rfl rfl (A_assign rfl) ?_)
   refine Wp_end (Stl_nil rfl) nb' ?_
   refine zy ?_
   exact Wc_ret (Lv_ret rfl (enter_err (shownErr_out c1 c2 (.inl ⟨hp,c3⟩)) (by decide) hE1))
  refine Wc_draw hmix [0,1,3,7,15,31,15,79,207,463,975,1999,4047,8143,16383,32767,65535,131071,262143,524287,1048575,2097151,4194303,2097151,10485759,27262975,60817407,127926271,262143999,530579455,1067450367,2147483647,4294967295,8589934591,17179869183] [0,1,2,3,4,5,6,7,8,9,10,11,12,13] (some 14) [([15,16,17,18,19,20,21,22,23,24,25,26,27,28,29,30],(some 31)),([32,33],(some 34)),([],none)] (by kernel_rfl) (by kernel_rfl) ?_
  refine z_f ?_;refine z_l ?_;refine Wp_pure rfl rfl rfl rfl rfl (fun _=>A_tt hp (A_neq rfl rfl)) ?_;refine z_m ?_;refine g_f ?_;refine g_l ?_;refine g_m ?_;refine g_q ?_;refine g_f ?_;refine g_f ?_;refine g_f ?_;refine g_l ?_;refine g_c ?_;refine g_u ?_
  refine Wp_eff [0,1,2,3,4,5,6,7,8,9,10,11,12,13] (by kernel_rfl) rfl (Stl_nil rfl) rfl nb rfl (W1_callV rfl rfl rfl rfl rfl Bod.h (Sv_ff c3 (out_sv _ _ _ _)) ?_)
  refine z_p ?_;refine z_m ?_;refine g_f ?_;refine g_l ?_
  first|refine Wp_off rfl rfl rfl rfl ?_|refine Wp_pure rfl rfl rfl rfl rfl (fun _=>A_ff (by omega) (A_neq rfl rfl)) ?_
  refine g_m ?_;refine g_f ?_;refine g_l ?_;refine g_m ?_;refine g_q ?_;refine g_f ?_;refine g_f ?_;refine g_f ?_;refine g_l ?_;refine g_c ?_;refine g_u ?_
  refine Wp_eff [0,1,2,3,4,5,6,7,8,9,10,11,12,13,14,15,16,17,18,19,20,21,22,23,24,25,26,27,28,29,30] (by kernel_rfl) rfl (Stl_nil rfl) rfl nb rfl (W1_off rfl ?_)
  refine g_p ?_;refine z_p ?_
  refine Wp_eff [0,1,2,3,4,5,6,7,8,9,10,11,12,13,14,15,16,17,18,19,20,21,22,23,24,25,26,27,28,29,30,31,32,33] (by kernel_rfl) rfl (Stl_nil rfl) rfl nb rfl (W1_op rfl rfl (A_assign rfl) ?_)
  refine Wp_end (Stl_nil rfl) nb' ?_
  have hprint:0<=s.print/\s.print<t.prints.length:=by omega
  replace c3:¬((s.print ≠ -1/\(s.print<0\/(t.prints.length:Int)-1<s.print))\/(s.pack ≠ -1/\(s.pack<0\/(t.packs.length:Int)-1<s.pack))):=by omega
  refine zy ?_
  refine Wo_callP rfl rfl rfl rfl rfl Bod.h rfl rfl (out_sv _ _ _ _) (fun c4=>?_) (fun c4=>?_)
  ·refine zy ?_
   exact Wc_ret (Lv_ret rfl (enter_err (by rw[shownErr_rng c1 c2 c3,if_pos (.inl (of_decide_eq_true c4))]) (by decide) hE1))
  refine zy ?_
  refine Wo_callP rfl rfl rfl rfl rfl Bod.h rfl rfl (out_sv _ _ _ _) (fun c5=>?_) (fun c5=>?_)
  ·refine zy ?_
   exact Wc_ret (Lv_ret rfl (enter_err (by rw[shownErr_rng c1 c2 c3,if_pos (.inr (.inl (of_decide_eq_true c5)))]) (by decide) hE1))
  refine zy ?_
  refine Wo_callP rfl rfl rfl rfl rfl Bod.h rfl rfl (out_sv _ _ _ _) (fun c6=>?_) (fun c6=>?_)
  ·refine zy ?_
   exact Wc_ret (Lv_ret rfl (enter_err (by rw[shownErr_rng c1 c2 c3,if_pos (.inr (.inr (of_decide_eq_true c6)))]) (by decide) hE1))
  refine zy ?_
  replace c4:=of_decide_eq_false c4
  replace c5:=of_decide_eq_false c5
  replace c6:=of_decide_eq_false c6
  have hs0:shownErr t s=0:=by rw[shownErr_rng c1 c2 c3,if_neg (fun x=>x.elim c4 fun x=>x.elim c5 c6)]
  have hlr:=long_rng hO hs0
  obtain⟨bv,ov,oav,rfl,hrv⟩:=ven_row (RowsAt.ext (R:=ScVR) (fun x _=>x) m3 hE1) (s:=s) (by omega) (by omega)
  obtain⟨-,⟨vp1,vp2⟩,⟨vc1,vc2⟩,-⟩:=venue_ok (ven_ok hO hs0)
  generalize hV:venAt t s=V at *
  refine Wc_draw hmix [0,0,0,4,12,28,60,124,0,256,1020,2044,4095,8191,16383] [0,1,2,3,4,5,6,7,8,9,10,11,12,13] (some 14) [([],none)] (by kernel_rfl) (by kernel_rfl) ?_
  refine z_r ?_;refine z_m ?_;refine z_m ?_;refine z_q ?_;refine z_f ?_;refine z_f ?_;refine z_f ?_;refine z_l ?_;refine z_f ?_;refine z_l ?_;refine Wp_pure rfl rfl rfl rfl rfl (fun _=>A_indexAddr (k:=s.venue.toNat) Und.h Tsz.h rfl rfl (by omega) (by omega)) ?_;refine z_r ?_;refine Wp_pure rfl rfl rfl rfl rfl (fun _=>A_build rfl (fill21 _ _ _ _ _ _ _ _ _ _ _ _ _ _ _ _)) ?_
  refine Wp_new (nk:=.ptr) rfl rfl rfl rfl rfl (fun _ _ hs=>N_box hs rfl) ?_
  refine Wp_eff (h1:=(Heap.add h1 _)) [0,1,2,3,4,5,6,7,8,9,10,11,12,13] (by kernel_rfl) rfl (Stl_nil rfl) rfl rfl rfl (W1_op rfl rfl (A_assign rfl) ?_)
  refine Wp_end (h1:=(Heap.add h1 _)) (Stl_nil rfl) rfl ?_
  refine Wc_add (o:=.cells [i64 s.venue,i64 s.print,i64 s.pack,i64 s.minute,i64 s.speed,i64 s.worth,.pointer (some ⟨bH,0,none⟩),str [],str [],str V.name,i64 V.land,i64 V.proj,i64 V.speeds.lo,i64 V.speeds.hi,i64 V.change,i64 V.spool,i64 V.turn,.bool V.digital,i64 0,i64 0,i64 0] 156 false) hW1 fun h2 hE2 hW2 hgS=>?_
  have g12:=hE2.get hg1
  have gB2:=hE2.get hgB
  have hnS:h1.nx<=h1.nx:=Nat.le_refl _
  refine zy ?_
  refine Wo_do rfl rfl rfl rfl (A_ff (by omega) (A_geq rfl rfl)) ?_
  refine zy ?_
  obtain⟨bp,op,oap,rfl,ap,cp,hrp,hI⟩:=pr_row (RowsAt.ext (R:=ScPR) (fun x y=>ScPR.ext x y) m5 (hE1.trans hE2)) (s:=s) hprint.1 hprint.2
  obtain⟨⟨l1,l2⟩,l3,-,-⟩:=print_ok (pr_ok hO hs0 hk)
  have hEnd:endS t s=s.minute+longS t s:=rfl
  have hlong:longS t s=if V.proj<2 then upS (secsS (prAt t s).reels s.speed) 60+V.change*(((prAt t s).reels.length:Int)-1) else upS (secsS (prAt t s).reels s.speed) 60:=by unfold longS;rw[if_neg (by omega),hV]
  have hsr:=secs_rng (l:=(prAt t s).reels) (speed:=s.speed) (by omega) l3
  generalize hPr:prAt t s=Pr at *
  refine Wc_draw hmix [0,1,3,7,15,31,0,64,255,511,0,2047] [0,1,2,3,4,5,6,7,8,9,10] (some 11) [([],none)] (by kernel_rfl) (by kernel_rfl) ?_
  refine z_m ?_;refine z_q ?_;refine z_f ?_;refine z_f ?_;refine z_f ?_;refine z_l ?_;refine z_f ?_;refine z_l ?_;refine Wp_pure rfl rfl rfl rfl rfl (fun _=>A_indexAddr (k:=s.print.toNat) Und.h Tsz.h rfl rfl (by omega) (by omega)) ?_;refine z_r ?_
  refine Wp_new (nk:=.ptr) rfl rfl rfl rfl rfl (fun _ _ _=>N_alloc Zr.h) ?_
  refine Wp_eff (h1:=(Heap.add h2 _)) [0,1,2,3,4,5,6,7,8,9,10] (by kernel_rfl) rfl (Stl_nil rfl) rfl rfl rfl (W1_wfK (W1_store rfl rfl Tsz.h rfl rfl Heap.get_add_same rfl rfl rfl (fun h3 hU3 hW3=>?_)))
  have hE3:=hU3.ext (Ext.add hW2 _) hW2 (Nat.le_refl _)
  refine Wp_end (h1:=h3) (Stl_nil rfl) rfl ?_
  have gP:=hU3.at'
  have gS:=hE3.get hgS
  have hEn:=hE2.trans hE3
  have k1:=hEn.get hg1
  have hI3:=hI.ext hE3
  generalize hbP:h2.nx=bP at gP
  have hne:h1.nx≠bP:=by
   have:=hW2 _ _ hgS
   omega
  refine zy ?_
  refine Wc_loop (fun (k:Nat) m ds h'=>ds=[]/\h3=h'/\k<=Pr.reels.length ∧
    AllK m [(0,.pointer (some ⟨bH,0,none⟩)),(3,.pointer (some ⟨b1,0,none⟩)),(6,.pointer (some ⟨h1.nx,0,none⟩)),(8,.pointer (some ⟨bP,0,none⟩)),(9,i64 (secsS (Pr.reels.take k) s.speed)),(141,.slice ap Pr.reels.length cp),(142,i64 Pr.reels.length),(143,i64 k)]) (fun k=>Pr.reels.length-k) 0 ?_ ?_
  ·exact⟨rfl,rfl,Nat.zero_le _,rfl,rfl,rfl,rfl,rfl,rfl,rfl,rfl,trivial⟩
  rintro k m ds h' ⟨rfl,rfl,hk',hall⟩
  refine Wc.le ?_ (Le.kn hall)
  refine zy ?_
  refine Wo_dec rfl rfl rfl rfl (A_lss rfl rfl) (fun h4=>?_) (fun h4=>?_)
  ·have hk2:k<Pr.reels.length:=by simpa using h4
   obtain⟨b2,o2,oa2,rfl,hc2⟩:=hI3 k hk2
   have hn2:=l3 _ (List.getElem_mem hk2)
   have hss:secsS (Pr.reels.take (k+1)) s.speed=secsS (Pr.reels.take k) s.speed+upS Pr.reels[k] s.speed:=by
    unfold secsS
    rw[List.take_add_one,List.getElem?_eq_getElem hk2,List.map_append,List.sum_append];simp
   have hs2:=secs_rng (l:=Pr.reels.take k) (speed:=s.speed) (by omega) (fun n hn=>l3 n (List.mem_of_mem_take hn))
   rw[List.length_take,Nat.min_eq_left (by omega)] at hs2
   have hu:=upS_rng (a:=Pr.reels[k]) (b:=s.speed) (by omega) (by omega)
   have hup:=fun h=>up_sv (a:=Pr.reels[k]) (b:=s.speed) (by omega) (by omega) (by omega) (by omega) h
   generalize hmk:Pr.reels[k]=x at *
   generalize upS x s.speed=u at *
   generalize secsS (Pr.reels.take k) s.speed=z at *
   refine zy ?_
   refine Wo_do rfl rfl rfl rfl (A_ix Und.h Tsz.h rfl rfl) ?_
   refine zy ?_
   refine Wo_callV rfl rfl rfl rfl rfl Bod.h rfl rfl (hup _) ?_
   refine zy ?_
   refine⟨k+1,(by show Pr.reels.length-(k+1)<Pr.reels.length-k;omega),rfl,rfl,hk2,rfl,rfl,rfl,rfl,?_,rfl,rfl,rfl,trivial⟩
   rw[hss];rfl
  have hk2:k=Pr.reels.length:=by omega
  subst hk2
  rw[List.take_length]
  clear hk'
  have hup:=fun h=>up_sv (a:=secsS Pr.reels s.speed) (b:=60) (by omega) (by omega) (by omega) (by omega) h
  have hu:=upS_rng (a:=secsS Pr.reels s.speed) (b:=60) (by omega) (by omega)
  generalize hZ:secsS Pr.reels s.speed=Z at *
  generalize hN:upS Z 60=N at *
  clear hall h4
  refine zy ?_
  refine Wc_draw hmix [0,0,0,0,8,0,32,0,128,0,512,1920,1561,5657,13849,30331,63099,128635,262143,524287,1048575] [0,1,2,3,4,5,6,7,8,9] (some 10) [([11,12,13],(some 14)),([15,16],(some 17)),([18,19],(some 20)),([],none)] (by kernel_rfl) (by kernel_rfl) ?_
  refine z_m ?_;refine z_m ?_;refine z_m ?_;refine z_f ?_;refine z_l ?_;refine z_f ?_;refine z_l ?_;refine z_f ?_;refine z_l ?_;refine z_m ?_
  refine Wp_eff [9] (by kernel_rfl) rfl (Stl_nil rfl) rfl nb rfl (W1_callV rfl rfl rfl rfl rfl Bod.h (hup _) ?_)
  refine z_y ?_;refine z_q ?_;refine z_f ?_
  refine Wp_eff [0,3,4,9,10,12,13] (by kernel_rfl) rfl (by refine t_l 8 ?_;refine t_f 7 ?_;refine t_l 6 ?_;refine t_f 5 ?_;refine t_l 4 ?_;refine t_f 3 ?_;refine t_m 2 ?_;refine t_m 1 ?_;refine t_m 0 ?_;exact Stl_nil rfl) rfl nb rfl (W1_wfK (W1_store rfl rfl Tsz.h rfl rfl gS rfl rfl rfl (fun h4 hU4 hW4=>?_)))
  have hEn4:=hU4.ext hEn hW1 (Nat.le_refl _)
  have gP4:=hU4.get (Ne.symm hne) gP
  have k14:=hEn4.get hg1
  have gS4:=hU4.at'
  refine z_q ?_;refine z_f ?_
  refine Wp_eff [0,1,3,4,5,6,9,10,12,13,14,15,16] (by kernel_rfl) rfl (by refine t_y 11 ?_;refine t_l 8 ?_;refine t_f 7 ?_;refine t_l 6 ?_;refine t_f 5 ?_;refine t_m 2 ?_;refine t_m 1 ?_;exact Stl_nil rfl) rfl nb rfl (W1_wfK (W1_store rfl rfl Tsz.h rfl rfl gS4 rfl rfl rfl (fun h5 hU5 hW5=>?_)))
  have hEn5:=hU5.ext hEn4 hW1 (Nat.le_refl _)
  have gP5:=hU5.get (Ne.symm hne) gP4
  have k15:=hEn5.get hg1
  have gS5:=hU5.at'
  refine z_q ?_;refine z_f ?_
  refine Wp_eff [0,1,2,3,4,5,6,7,8,9,10,11,12,13,14,15,16,17,18,19] (by kernel_rfl) rfl (by refine t_y 11 ?_;refine t_l 8 ?_;refine t_f 7 ?_;refine t_m 2 ?_;exact Stl_nil rfl) rfl nb rfl (W1_wfK (W1_store rfl rfl Tsz.h rfl rfl gS5 rfl rfl rfl (fun h6 hU6 hW6=>?_)))
  have hEn6:=hU6.ext hEn5 hW1 (Nat.le_refl _)
  have gP6:=hU6.get (Ne.symm hne) gP5
  have gS6:=hU6.at'
  refine Wp_end (Stl_nil rfl) nb' ?_
  clear gP gP4 gP5 k1 k14 k15 gS gS4 gS5 hEn hEn4 hEn5 hU4 hU5 hU6
  refine zy ?_
  by_cases c7:V.proj<2
  ·rw[if_pos c7] at hlong
   have hmul:0<=V.change*((Pr.reels.length:Int)-1):=Int.mul_nonneg vc1 (by omega)
   have hmul2:V.change*((Pr.reels.length:Int)-1)<=60*11:=Int.mul_le_mul vc2 (by omega) (by omega) (by decide)
   generalize hM:V.change*((Pr.reels.length:Int)-1)=M at *
   refine Wo_do rfl rfl rfl rfl (A_tt c7 (A_lss rfl rfl)) ?_
   refine zy ?_
   refine Wc_draw hmix [0,1,3,7,0,16,48,112,240,0,512,1536,3584,8176,16383,32767,65535,131071] [0,1,2,3,4,5,6,7,8,9,10,11,12,13,14,15,16] (some 17) [([],none)] (by kernel_rfl) (by kernel_rfl) ?_
   refine z_m ?_;refine z_q ?_;refine z_f ?_;refine z_l ?_;refine z_m ?_;refine z_q ?_;refine z_f ?_;refine z_f ?_;refine z_l ?_;refine z_f ?_;refine z_l ?_;refine z_c ?_;refine z_u ?_;refine Wp_pure rfl rfl rfl rfl rfl (fun _=>A_mulV rfl rfl hM (by omega) (by omega)) ?_;refine z_y ?_;refine z_q ?_;refine z_f ?_
   refine Wp_eff [0,1,2,3,4,5,6,7,8,9,10,11,12,13,14,15,16] (by kernel_rfl) rfl (Stl_nil rfl) rfl nb rfl (W1_store rfl rfl Tsz.h rfl rfl gS6 rfl rfl rfl (fun h7 hU7=>?_))
   refine Wp_end (Stl_nil rfl) nb' ?_
   have hEn:=hU7.ext hEn6 hW1 (Nat.le_refl _)
   have gSn:=hU7.at'
   rw[hlong] at hEnd hlr
   rw[<-Int.add_assoc] at hEnd
   have k1:=hEn.get hg1
   have kB:=hEn.get hgB
   refine zy ?_
   refine Wc_draw hmix [0,0,2,6,14,30,62,0,128,384,1022,0,2048,6144,14336,30720,63488,0,131072,393216,917504,1966080,4063232,8386560,16777214,33554431,67108863,134217727] [0,1,2,3,4,5,6,7,8,9,10,11,12,13,14,15,16,17,18,19,20,21,22,23,24,25,26] (some 27) [([],none)] (by kernel_rfl) (by kernel_rfl) ?_
   refine z_m ?_;refine z_m ?_;refine z_q ?_;refine z_f ?_;refine z_f ?_;refine z_f ?_;refine z_l ?_;refine z_f ?_;refine z_l ?_;refine Wp_pure rfl rfl rfl rfl rfl (fun _=>A_quo rfl rfl (by omega) (day_tdiv (by omega)) (by omega) (by omega)) ?_;refine z_y ?_;refine z_m ?_;refine z_q ?_;refine z_f ?_;refine z_f ?_;refine z_f ?_;refine z_l ?_;refine z_m ?_;refine z_q ?_;refine z_f ?_;refine z_l ?_;refine z_u ?_;refine Wp_pure rfl rfl rfl rfl rfl (fun _=>A_quo rfl rfl (by omega) (day_tdiv (by omega)) (by omega) (by omega)) ?_;refine z_y ?_;refine z_b ?_;refine z_q ?_;refine z_f ?_
   refine Wp_eff [0,1,2,3,4,5,6,7,8,9,10,11,12,13,14,15,16,17,18,19,20,21,22,23,24,25,26] (by kernel_rfl) rfl (Stl_nil rfl) rfl nb rfl (W1_store rfl rfl Tsz.h rfl rfl gSn rfl rfl rfl (fun h9 hU9=>?_))
   refine Wp_end (Stl_nil rfl) nb' ?_
   have hE9:=hU9.ext hEn hW1 (Nat.le_refl _)
   have gS9:=hU9.at'
   refine zy ?_
   refine Wc_ret (Lv_ret rfl ⟨hE1.trans hE9,.inr ⟨hs0,h1.nx,rfl,?_,hE1.2.1⟩⟩)
   have e1:workS t s=Pr.work:=by unfold workS;rw[if_pos hprint.1,hPr]
   have e2:versS t s=Pr.version:=by unfold versS;rw[if_pos hprint.1,hPr]
   unfold ShowAt shRow daysS
   rw[e1,e2,hV,hEnd]
   exact gS9
  ·rw[if_neg c7] at hlong
   refine Wo_do rfl rfl rfl rfl (A_ff c7 (A_lss rfl rfl)) ?_
   have hEn:=hEn6
   have gSn:=gS6
   rw[hlong] at hEnd hlr
   have k1:=hEn.get hg1
   have kB:=hEn.get hgB
   refine zy ?_
   refine Wc_draw hmix [0,0,2,6,14,30,62,0,128,384,1022,0,2048,6144,14336,30720,63488,0,131072,393216,917504,1966080,4063232,8386560,16777214,33554431,67108863,134217727] [0,1,2,3,4,5,6,7,8,9,10,11,12,13,14,15,16,17,18,19,20,21,22,23,24,25,26] (some 27) [([],none)] (by kernel_rfl) (by kernel_rfl) ?_
   refine z_m ?_;refine z_m ?_;refine z_q ?_;refine z_f ?_;refine z_f ?_;refine z_f ?_;refine z_l ?_;refine z_f ?_;refine z_l ?_;refine Wp_pure rfl rfl rfl rfl rfl (fun _=>A_quo rfl rfl (by omega) (day_tdiv (by omega)) (by omega) (by omega)) ?_;refine z_y ?_;refine z_m ?_;refine z_q ?_;refine z_f ?_;refine z_f ?_;refine z_f ?_;refine z_l ?_;refine z_m ?_;refine z_q ?_;refine z_f ?_;refine z_l ?_;refine z_u ?_;refine Wp_pure rfl rfl rfl rfl rfl (fun _=>A_quo rfl rfl (by omega) (day_tdiv (by omega)) (by omega) (by omega)) ?_;refine z_y ?_;refine z_b ?_;refine z_q ?_;refine z_f ?_
   refine Wp_eff [0,1,2,3,4,5,6,7,8,9,10,11,12,13,14,15,16,17,18,19,20,21,22,23,24,25,26] (by kernel_rfl) rfl (Stl_nil rfl) rfl nb rfl (W1_store rfl rfl Tsz.h rfl rfl gSn rfl rfl rfl (fun h9 hU9=>?_))
   refine Wp_end (Stl_nil rfl) nb' ?_
   have hE9:=hU9.ext hEn hW1 (Nat.le_refl _)
   have gS9:=hU9.at'
   refine zy ?_
   refine Wc_ret (Lv_ret rfl ⟨hE1.trans hE9,.inr ⟨hs0,h1.nx,rfl,?_,hE1.2.1⟩⟩)
   have e1:workS t s=Pr.work:=by unfold workS;rw[if_pos hprint.1,hPr]
   have e2:versS t s=Pr.version:=by unfold versS;rw[if_pos hprint.1,hPr]
   unfold ShowAt shRow daysS
   rw[e1,e2,hV,hEnd]
   exact gS9
 ·have hk:¬s.pack = -1:=fun hk=>c2 (by rw[decide_eq_true hp,decide_eq_true hk])
  by_cases c3:s.pack<0\/(t.packs.length:Int)-1<s.pack
  ·refine Wc_draw hmix [0,1,3,7,15,31,15,79,207,463,975,1999,4047,8143,16383,32767,65535,131071,262143,524287,1048575,2097151,4194303,2097151,10485759,27262975,60817407,127926271,262143999,530579455,1067450367,2147483647,4294967295,8589934591,17179869183] [0,1,2,3,4,5,6,7,8,9,10,11,12,13] (some 14) [([15,16,17,18,19,20,21,22,23,24,25,26,27,28,29,30],(some 31)),([32,33],(some 34)),([],none)] (by kernel_rfl) (by kernel_rfl) ?_
   refine z_f ?_;refine z_l ?_;refine Wp_pure rfl rfl rfl rfl rfl (fun _=>A_ff (by omega) (A_neq rfl rfl)) ?_;refine z_m ?_;refine g_f ?_;refine g_l ?_;refine g_m ?_;refine g_q ?_;refine g_f ?_;refine g_f ?_;refine g_f ?_;refine g_l ?_;refine g_c ?_;refine g_u ?_
   refine Wp_eff [0,1,2,3,4,5,6,7,8,9,10,11,12,13] (by kernel_rfl) rfl (Stl_nil rfl) rfl nb rfl (W1_off rfl ?_)
   refine z_p ?_;refine z_m ?_;refine g_f ?_;refine g_l ?_
   first|refine Wp_off rfl rfl rfl rfl ?_|refine Wp_pure rfl rfl rfl rfl rfl (fun _=>A_tt hk (A_neq rfl rfl)) ?_
   refine g_m ?_;refine g_f ?_;refine g_l ?_;refine g_m ?_;refine g_q ?_;refine g_f ?_;refine g_f ?_;refine g_f ?_;refine g_l ?_;refine g_c ?_;refine g_u ?_
   refine Wp_eff [0,1,2,3,4,5,6,7,8,9,10,11,12,13,14,15,16,17,18,19,20,21,22,23,24,25,26,27,28,29,30] (by kernel_rfl) rfl (Stl_nil rfl) rfl nb rfl (W1_callV rfl rfl rfl rfl rfl Bod.h (Sv_tt c3 (out_sv _ _ _ _)) ?_)
   refine g_p ?_;refine z_p ?_
   refine Wp_eff [0,1,2,3,4,5,6,7,8,9,10,11,12,13,14,15,16,17,18,19,20,21,22,23,24,25,26,27,28,29,30,31,32,33] (by kernel_rfl) rfl (Stl_nil rfl) rfl nb rfl (W1_op rfl rfl (A_assign rfl) ?_)
   refine Wp_end (Stl_nil rfl) nb' ?_
   refine zy ?_
   exact Wc_ret (Lv_ret rfl (enter_err (shownErr_out c1 c2 (.inr ⟨hk,c3⟩)) (by decide) hE1))
  refine Wc_draw hmix [0,1,3,7,15,31,15,79,207,463,975,1999,4047,8143,16383,32767,65535,131071,262143,524287,1048575,2097151,4194303,2097151,10485759,27262975,60817407,127926271,262143999,530579455,1067450367,2147483647,4294967295,8589934591,17179869183] [0,1,2,3,4,5,6,7,8,9,10,11,12,13] (some 14) [([15,16,17,18,19,20,21,22,23,24,25,26,27,28,29,30],(some 31)),([32,33],(some 34)),([],none)] (by kernel_rfl) (by kernel_rfl) ?_
  refine z_f ?_;refine z_l ?_;refine Wp_pure rfl rfl rfl rfl rfl (fun _=>A_ff (by omega) (A_neq rfl rfl)) ?_;refine z_m ?_;refine g_f ?_;refine g_l ?_;refine g_m ?_;refine g_q ?_;refine g_f ?_;refine g_f ?_;refine g_f ?_;refine g_l ?_;refine g_c ?_;refine g_u ?_
  refine Wp_eff [0,1,2,3,4,5,6,7,8,9,10,11,12,13] (by kernel_rfl) rfl (Stl_nil rfl) rfl nb rfl (W1_off rfl ?_)
  refine z_p ?_;refine z_m ?_;refine g_f ?_;refine g_l ?_
  first|refine Wp_off rfl rfl rfl rfl ?_|refine Wp_pure rfl rfl rfl rfl rfl (fun _=>A_tt hk (A_neq rfl rfl)) ?_
  refine g_m ?_;refine g_f ?_;refine g_l ?_;refine g_m ?_;refine g_q ?_;refine g_f ?_;refine g_f ?_;refine g_f ?_;refine g_l ?_;refine g_c ?_;refine g_u ?_
  refine Wp_eff [0,1,2,3,4,5,6,7,8,9,10,11,12,13,14,15,16,17,18,19,20,21,22,23,24,25,26,27,28,29,30] (by kernel_rfl) rfl (Stl_nil rfl) rfl nb rfl (W1_callV rfl rfl rfl rfl rfl Bod.h (Sv_ff c3 (out_sv _ _ _ _)) ?_)
  refine g_p ?_;refine z_p ?_
  refine Wp_eff [0,1,2,3,4,5,6,7,8,9,10,11,12,13,14,15,16,17,18,19,20,21,22,23,24,25,26,27,28,29,30,31,32,33] (by kernel_rfl) rfl (Stl_nil rfl) rfl nb rfl (W1_op rfl rfl (A_assign rfl) ?_)
  refine Wp_end (Stl_nil rfl) nb' ?_
  have hpack:0<=s.pack/\s.pack<t.packs.length:=by omega
  replace c3:¬((s.print ≠ -1/\(s.print<0\/(t.prints.length:Int)-1<s.print))\/(s.pack ≠ -1/\(s.pack<0\/(t.packs.length:Int)-1<s.pack))):=by omega
  refine zy ?_
  refine Wo_callP rfl rfl rfl rfl rfl Bod.h rfl rfl (out_sv _ _ _ _) (fun c4=>?_) (fun c4=>?_)
  ·refine zy ?_
   exact Wc_ret (Lv_ret rfl (enter_err (by rw[shownErr_rng c1 c2 c3,if_pos (.inl (of_decide_eq_true c4))]) (by decide) hE1))
  refine zy ?_
  refine Wo_callP rfl rfl rfl rfl rfl Bod.h rfl rfl (out_sv _ _ _ _) (fun c5=>?_) (fun c5=>?_)
  ·refine zy ?_
   exact Wc_ret (Lv_ret rfl (enter_err (by rw[shownErr_rng c1 c2 c3,if_pos (.inr (.inl (of_decide_eq_true c5)))]) (by decide) hE1))
  refine zy ?_
  refine Wo_callP rfl rfl rfl rfl rfl Bod.h rfl rfl (out_sv _ _ _ _) (fun c6=>?_) (fun c6=>?_)
  ·refine zy ?_
   exact Wc_ret (Lv_ret rfl (enter_err (by rw[shownErr_rng c1 c2 c3,if_pos (.inr (.inr (of_decide_eq_true c6)))]) (by decide) hE1))
  refine zy ?_
  replace c4:=of_decide_eq_false c4
  replace c5:=of_decide_eq_false c5
  replace c6:=of_decide_eq_false c6
  have hs0:shownErr t s=0:=by rw[shownErr_rng c1 c2 c3,if_neg (fun x=>x.elim c4 fun x=>x.elim c5 c6)]
  have hlr:=long_rng hO hs0
  obtain⟨bv,ov,oav,rfl,hrv⟩:=ven_row (RowsAt.ext (R:=ScVR) (fun x _=>x) m3 hE1) (s:=s) (by omega) (by omega)
  obtain⟨-,⟨vp1,vp2⟩,⟨vc1,vc2⟩,-⟩:=venue_ok (ven_ok hO hs0)
  generalize hV:venAt t s=V at *
  refine Wc_draw hmix [0,0,0,4,12,28,60,124,0,256,1020,2044,4095,8191,16383] [0,1,2,3,4,5,6,7,8,9,10,11,12,13] (some 14) [([],none)] (by kernel_rfl) (by kernel_rfl) ?_
  refine z_r ?_;refine z_m ?_;refine z_m ?_;refine z_q ?_;refine z_f ?_;refine z_f ?_;refine z_f ?_;refine z_l ?_;refine z_f ?_;refine z_l ?_;refine Wp_pure rfl rfl rfl rfl rfl (fun _=>A_indexAddr (k:=s.venue.toNat) Und.h Tsz.h rfl rfl (by omega) (by omega)) ?_;refine z_r ?_;refine Wp_pure rfl rfl rfl rfl rfl (fun _=>A_build rfl (fill21 _ _ _ _ _ _ _ _ _ _ _ _ _ _ _ _)) ?_
  refine Wp_new (nk:=.ptr) rfl rfl rfl rfl rfl (fun _ _ hs=>N_box hs rfl) ?_
  refine Wp_eff (h1:=(Heap.add h1 _)) [0,1,2,3,4,5,6,7,8,9,10,11,12,13] (by kernel_rfl) rfl (Stl_nil rfl) rfl rfl rfl (W1_op rfl rfl (A_assign rfl) ?_)
  refine Wp_end (h1:=(Heap.add h1 _)) (Stl_nil rfl) rfl ?_
  refine Wc_add (o:=.cells [i64 s.venue,i64 s.print,i64 s.pack,i64 s.minute,i64 s.speed,i64 s.worth,.pointer (some ⟨bH,0,none⟩),str [],str [],str V.name,i64 V.land,i64 V.proj,i64 V.speeds.lo,i64 V.speeds.hi,i64 V.change,i64 V.spool,i64 V.turn,.bool V.digital,i64 0,i64 0,i64 0] 156 false) hW1 fun h2 hE2 hW2 hgS=>?_
  have g12:=hE2.get hg1
  have gB2:=hE2.get hgB
  have hnS:h1.nx<=h1.nx:=Nat.le_refl _
  refine zy ?_
  refine Wo_do rfl rfl rfl rfl (A_tt hpack.1 (A_geq rfl rfl)) ?_
  refine zy ?_
  obtain⟨bp,op,oap,rfl,hrp⟩:=pk_row (RowsAt.ext (R:=ScPkR) (fun x _=>x) m6 (hE1.trans hE2)) (s:=s) hpack.1 hpack.2
  obtain⟨⟨l1,l2⟩,-⟩:=pack_ok (pk_ok hO hs0 hpack.1)
  have hEnd:endS t s=s.minute+longS t s:=rfl
  have hlong:longS t s=upS (pkAt t s).frames (60*s.speed):=by unfold longS;rw[if_pos hpack.1,upS_up (by omega)]
  generalize hPk:pkAt t s=Pk at *
  rw[hlong] at hEnd hlr
  have hup:=fun h=>up_sv (a:=Pk.frames) (b:=60*s.speed) (by omega) (by omega) (by omega) (by omega) h
  generalize hX:60*s.speed=X at *
  generalize hN:upS Pk.frames X=N at *
  refine Wc_draw hmix [0,1,3,7,15,31,0,64,255,511,0,2047] [0,1,2,3,4,5,6,7,8,9,10] (some 11) [([],none)] (by kernel_rfl) (by kernel_rfl) ?_
  refine z_m ?_;refine z_q ?_;refine z_f ?_;refine z_f ?_;refine z_f ?_;refine z_l ?_;refine z_f ?_;refine z_l ?_;refine Wp_pure rfl rfl rfl rfl rfl (fun _=>A_indexAddr (k:=s.pack.toNat) Und.h Tsz.h rfl rfl (by omega) (by omega)) ?_;refine z_r ?_
  refine Wp_new (nk:=.ptr) rfl rfl rfl rfl rfl (fun _ _ _=>N_alloc Zr.h) ?_
  refine Wp_eff (h1:=(Heap.add h2 _)) [0,1,2,3,4,5,6,7,8,9,10] (by kernel_rfl) rfl (Stl_nil rfl) rfl rfl rfl (W1_wfK (W1_store rfl rfl Tsz.h rfl rfl Heap.get_add_same rfl rfl rfl (fun h3 hU3 hW3=>?_)))
  have hE3:=hU3.ext (Ext.add hW2 _) hW2 (Nat.le_refl _)
  refine Wp_end (h1:=h3) (Stl_nil rfl) rfl ?_
  have gP:=hU3.at'
  have gS:=hE3.get hgS
  have hEn3:=hE2.trans hE3
  have k13:=hEn3.get hg1
  generalize hbP:h2.nx=bP at gP
  have hne:h1.nx≠bP:=by
   have:=hW2 _ _ hgS
   omega
  refine zy ?_
  refine Wc_draw hmix [0,0,0,0,8,0,32,0,128,0,512,0,2048,6144,15872,32640,32281,97817,228889,491131,1015419,2063995,4194303,8388607,16777215] [0,1,2,3,4,5,6,7,8,9,10,11,12,13] (some 14) [([15,16,17],(some 18)),([19,20],(some 21)),([22,23],(some 24)),([],none)] (by kernel_rfl) (by kernel_rfl) ?_
  refine z_m ?_;refine z_m ?_;refine z_m ?_;refine z_f ?_;refine z_l ?_;refine z_f ?_;refine z_l ?_;refine z_f ?_;refine z_l ?_;refine z_f ?_;refine z_l ?_;refine z_f ?_;refine z_l ?_;refine Wp_pure rfl rfl rfl rfl rfl (fun _=>A_mulV rfl rfl hX (by omega) (by omega)) ?_
  refine Wp_eff [9,10,11,12,13] (by kernel_rfl) rfl (Stl_nil rfl) rfl nb rfl (W1_callV rfl rfl rfl rfl rfl Bod.h (hup _) ?_)
  refine z_y ?_;refine z_q ?_;refine z_f ?_
  refine Wp_eff [0,3,4,9,10,11,12,13,14,16,17] (by kernel_rfl) rfl (by refine t_l 8 ?_;refine t_f 7 ?_;refine t_l 6 ?_;refine t_f 5 ?_;refine t_l 4 ?_;refine t_f 3 ?_;refine t_m 2 ?_;refine t_m 1 ?_;refine t_m 0 ?_;exact Stl_nil rfl) rfl nb rfl (W1_wfK (W1_store rfl rfl Tsz.h rfl rfl gS rfl rfl rfl (fun h4 hU4 hW4=>?_)))
  have hEn4:=hU4.ext hEn3 hW1 (Nat.le_refl _)
  have gP4:=hU4.get (Ne.symm hne) gP
  have k14:=hEn4.get hg1
  have gS4:=hU4.at'
  refine z_q ?_;refine z_f ?_
  refine Wp_eff [0,1,3,4,5,6,9,10,11,12,13,14,16,17,18,19,20] (by kernel_rfl) rfl (by refine t_y 15 ?_;refine t_l 8 ?_;refine t_f 7 ?_;refine t_l 6 ?_;refine t_f 5 ?_;refine t_m 2 ?_;refine t_m 1 ?_;exact Stl_nil rfl) rfl nb rfl (W1_wfK (W1_store rfl rfl Tsz.h rfl rfl gS4 rfl rfl rfl (fun h5 hU5 hW5=>?_)))
  have hEn5:=hU5.ext hEn4 hW1 (Nat.le_refl _)
  have gP5:=hU5.get (Ne.symm hne) gP4
  have k15:=hEn5.get hg1
  have gS5:=hU5.at'
  refine z_q ?_;refine z_f ?_
  refine Wp_eff [0,1,2,3,4,5,6,7,8,9,10,11,12,13,14,15,16,17,18,19,20,21,22,23] (by kernel_rfl) rfl (by refine t_y 15 ?_;refine t_l 8 ?_;refine t_f 7 ?_;refine t_m 2 ?_;exact Stl_nil rfl) rfl nb rfl (W1_wfK (W1_store rfl rfl Tsz.h rfl rfl gS5 rfl rfl rfl (fun h6 hU6 hW6=>?_)))
  have hEn:=hU6.ext hEn5 hW1 (Nat.le_refl _)
  have gSn:=hU6.at'
  refine Wp_end (Stl_nil rfl) nb' ?_
  clear gP gP4 gP5 k13 k14 k15 gS gS4 gS5 hEn3 hEn4 hEn5 hU4 hU5 hU6
  have k1:=hEn.get hg1
  have kB:=hEn.get hgB
  refine zy ?_
  refine Wc_draw hmix [0,0,2,6,14,30,62,0,128,384,1022,0,2048,6144,14336,30720,63488,0,131072,393216,917504,1966080,4063232,8386560,16777214,33554431,67108863,134217727] [0,1,2,3,4,5,6,7,8,9,10,11,12,13,14,15,16,17,18,19,20,21,22,23,24,25,26] (some 27) [([],none)] (by kernel_rfl) (by kernel_rfl) ?_
  refine z_m ?_;refine z_m ?_;refine z_q ?_;refine z_f ?_;refine z_f ?_;refine z_f ?_;refine z_l ?_;refine z_f ?_;refine z_l ?_;refine Wp_pure rfl rfl rfl rfl rfl (fun _=>A_quo rfl rfl (by omega) (day_tdiv (by omega)) (by omega) (by omega)) ?_;refine z_y ?_;refine z_m ?_;refine z_q ?_;refine z_f ?_;refine z_f ?_;refine z_f ?_;refine z_l ?_;refine z_m ?_;refine z_q ?_;refine z_f ?_;refine z_l ?_;refine z_u ?_;refine Wp_pure rfl rfl rfl rfl rfl (fun _=>A_quo rfl rfl (by omega) (day_tdiv (by omega)) (by omega) (by omega)) ?_;refine z_y ?_;refine z_b ?_;refine z_q ?_;refine z_f ?_
  refine Wp_eff [0,1,2,3,4,5,6,7,8,9,10,11,12,13,14,15,16,17,18,19,20,21,22,23,24,25,26] (by kernel_rfl) rfl (Stl_nil rfl) rfl nb rfl (W1_store rfl rfl Tsz.h rfl rfl gSn rfl rfl rfl (fun h9 hU9=>?_))
  refine Wp_end (Stl_nil rfl) nb' ?_
  have hE9:=hU9.ext hEn hW1 (Nat.le_refl _)
  have gS9:=hU9.at'
  refine zy ?_
  refine Wc_ret (Lv_ret rfl ⟨hE1.trans hE9,.inr ⟨hs0,h1.nx,rfl,?_,hE1.2.1⟩⟩)
  have e1:workS t s=Pk.work:=by unfold workS;rw[if_neg (by omega),hPk]
  have e2:versS t s=Pk.version:=by unfold versS;rw[if_neg (by omega),hPk]
  unfold ShowAt shRow daysS
  rw[e1,e2,hV,hEnd]
  exact gS9
end Go.Dw
/- H2: contracts: shown and long, package telecineref11. -/
namespace Go.Dw
open Go Go.Dx Go.Proofs
set_option maxRecDepth 100000
end Go.Dw
/- H3: contracts: why a show may not be, package screen. -/
namespace Go.Dw
open Go Go.Dx Go.Proofs
set_option maxRecDepth 100000
theorem within_sv {s a:Sp}{h:Heap}:Sv Tryz.prog 176 [.agg ⟨[i64 s.lo,i64 s.hi]⟩,.agg ⟨[i64 a.lo,i64 a.hi]⟩] h (RetP fun v h'=>v=.bool (decide (inSp s a))/\Ext h h'):=by
 refine Sv_wf fun hw=>?_
 refine Sv_enter Tryz.func176 rfl (by rw[Tryz.ntmps176];rfl) ?_;show Wc Tryz.prog ⟨176,17,none⟩ _ _ _ _ _
 refine zy ?_
 refine Wo_box rfl rfl rfl fun h1 hE1 hW1 hg1 hn1=>?_
 refine Wo_box rfl rfl rfl fun h2 hE2 hW2 hg2 hn2=>?_
 replace hg1:=hE2.get hg1
 have hE:=hE1.trans hE2
 generalize h.nx=b1 at *
 generalize h1.nx=b2 at *
 refine zy ?_
 refine Wo_dec rfl rfl rfl rfl (A_geq rfl rfl) (fun h3=>?_) (fun h3=>?_)
 ·refine zy ?_
  refine Wo_dec rfl rfl rfl rfl (A_leq rfl rfl) (fun h4=>?_) (fun h4=>?_)
  ·refine zy ?_
   exact Wc_ret (Lv_ret rfl ⟨by rw[decide_eq_true (show inSp s a from⟨h3,h4⟩)];rfl,hE⟩)
  ·refine zy ?_
   exact Wc_ret (Lv_ret rfl ⟨by rw[decide_eq_false (fun e:inSp s a=>h4 e.2)];rfl,hE⟩)
 ·refine zy ?_
  exact Wc_ret (Lv_ret rfl ⟨by rw[decide_eq_false (fun e:inSp s a=>h3 e.1)];rfl,hE⟩)
theorem indexL_sv {a:Option Addr}{cap:Nat}{l:List ScL}{h:Heap}{g:FuncId}{first capv:List Value}{p:ScL->Bool}(hI:RowsAt 4 ScLR h a l)(hbd:bodied Tryz.prog g=true)
  (hp:∀h1,Ext h h1->∀row x,x∈l->ScLR h1 row x->Sv Tryz.prog g (first++([.agg ⟨row⟩]++capv)) h1 (RetP fun v h'=>v=.bool (p x)/\Ext h1 h')) (hlen:l.length<9223372036854775808) :
  Sv Tryz.prog 204 [.slice a l.length cap,.func (.func g) ⟨first⟩ ⟨capv⟩] h (RetP fun v h'=>v=i64 (firstI p l)/\Ext h h'):=by
 refine Sv_enter Tryz.func204 rfl (by rw[Tryz.ntmps204];rfl) ?_;show Wc Tryz.prog ⟨204,19,none⟩ _ _ _ _ _
 refine zy ?_
 refine Wc_loop (fun (k:Nat) m ds h'=>ds=[]/\Ext h h'/\k<=l.length/\(∀j (hj:j<l.length),j<k->p l[j]=false)/\AllK m [(0,.slice a l.length cap),(1,.func (.func g) ⟨first⟩ ⟨capv⟩),(7,i64 l.length),(8,i64 k)])
  (fun k=>l.length-k) 0 ?_ ?_
 ·exact⟨rfl,Ext.refl _,Nat.zero_le _,(fun _ _ hj=>by omega),rfl,rfl,rfl,rfl,trivial⟩
 rintro k m ds h' ⟨rfl,hE,hk,hno,hall⟩
 refine Wc.le ?_ (Le.kn hall)
 refine zy ?_
 refine Wo_dec rfl rfl rfl rfl (A_lss rfl rfl) (fun h1=>?_) (fun h1=>?_)
 ·have hk':k<l.length:=by simpa using h1
  obtain⟨b,o,oa,rfl,row,hrow,hma⟩:=hI k hk'
  have hrow2:=hE.row hrow
  refine zy ?_
  refine Wo_do rfl rfl rfl rfl (A_ix Und.h Tsz.h rfl rfl) ?_
  refine zy ?_
  refine Wo_callB rfl rfl rfl rfl rfl hbd rfl rfl (hp h' hE _ _ (List.getElem_mem hk') hma) (fun hb h2 hE2=>?_) (fun hb h2 hE2=>?_)
  ·refine zy ?_
   refine Wc_ret (Lv_ret rfl ⟨?_,hE.trans hE2⟩)
   have:l.findIdx? p=some k:=by
    rw[List.findIdx?_eq_some_iff_getElem]
    exact⟨hk',hb,fun j hj=>by simp[hno j (by omega) hj]⟩
   simp[firstI,this];rfl
  ·refine zy ?_
   refine⟨k+1,?_,rfl,hE.trans hE2,hk',?_,rfl,rfl,rfl,rfl,trivial⟩
   ·show l.length-(k+1)<l.length-k;omega
   ·intro j hj hlt
    rcases Nat.lt_or_ge j k with g|g
    ·exact hno j hj g
    ·have:j=k:=by omega
     subst this;exact hb
 ·have hk2:k=l.length:=by omega
  subst hk2
  refine zy ?_
  refine Wc_ret (Lv_ret rfl ⟨?_,hE⟩)
  have:l.findIdx? p=none:=by
   rw[List.findIdx?_eq_none_iff]
   intro x hx
   obtain⟨j,hj,rfl⟩:=List.getElem_of_mem hx
   exact hno j hj hj
  simp[firstI,this];rfl
theorem containsFuncL_sv {a:Option Addr}{cap:Nat}{l:List ScL}{h:Heap}{g:FuncId}{first capv:List Value}{p:ScL->Bool}(hI:RowsAt 4 ScLR h a l)(hbd:bodied Tryz.prog g=true)
  (hp:∀h1,Ext h h1->∀row x,x∈l->ScLR h1 row x->Sv Tryz.prog g (first++([.agg ⟨row⟩]++capv)) h1 (RetP fun v h'=>v=.bool (p x)/\Ext h1 h')) (hlen:l.length<9223372036854775808) :
  Sv Tryz.prog 178 [.slice a l.length cap,.func (.func g) ⟨first⟩ ⟨capv⟩] h (RetP fun v h'=>v=.bool (l.any p)/\Ext h h'):=by
 refine Sv_enter Tryz.func178 rfl (by rw[Tryz.ntmps178];rfl) ?_;show Wc Tryz.prog ⟨178,9,none⟩ _ _ _ _ _
 refine zy ?_
 refine Wo_callE rfl rfl rfl rfl rfl Bod.h rfl rfl (indexL_sv hI hbd hp hlen) fun h1 hE1=>?_
 refine zy ?_
 refine Wo_dec rfl rfl rfl rfl (A_geq rfl rfl) (fun hb=>?_) (fun hb=>?_)
 ·refine zy ?_
  exact Wc_ret (Lv_ret rfl ⟨by rw[<-firstI_any,decide_eq_true hb];rfl,hE1⟩)
 ·refine zy ?_
  exact Wc_ret (Lv_ret rfl ⟨by rw[<-firstI_any,decide_eq_false hb];rfl,hE1⟩)
theorem indexK_sv {a:Option Addr}{cap:Nat}{l:List ScK}{h:Heap}{g:FuncId}{first capv:List Value}{p:ScK->Bool}(hI:RowsAt 4 ScKR h a l)(hbd:bodied Tryz.prog g=true)
  (hp:∀h1,Ext h h1->∀row x,x∈l->ScKR h1 row x->Sv Tryz.prog g (first++([.agg ⟨row⟩]++capv)) h1 (RetP fun v h'=>v=.bool (p x)/\Ext h1 h')) (hlen:l.length<9223372036854775808) :
  Sv Tryz.prog 205 [.slice a l.length cap,.func (.func g) ⟨first⟩ ⟨capv⟩] h (RetP fun v h'=>v=i64 (firstI p l)/\Ext h h'):=by
 refine Sv_enter Tryz.func205 rfl (by rw[Tryz.ntmps205];rfl) ?_;show Wc Tryz.prog ⟨205,19,none⟩ _ _ _ _ _
 refine zy ?_
 refine Wc_loop (fun (k:Nat) m ds h'=>ds=[]/\Ext h h'/\k<=l.length/\(∀j (hj:j<l.length),j<k->p l[j]=false)/\AllK m [(0,.slice a l.length cap),(1,.func (.func g) ⟨first⟩ ⟨capv⟩),(7,i64 l.length),(8,i64 k)])
  (fun k=>l.length-k) 0 ?_ ?_
 ·exact⟨rfl,Ext.refl _,Nat.zero_le _,(fun _ _ hj=>by omega),rfl,rfl,rfl,rfl,trivial⟩
 rintro k m ds h' ⟨rfl,hE,hk,hno,hall⟩
 refine Wc.le ?_ (Le.kn hall)
 refine zy ?_
 refine Wo_dec rfl rfl rfl rfl (A_lss rfl rfl) (fun h1=>?_) (fun h1=>?_)
 ·have hk':k<l.length:=by simpa using h1
  obtain⟨b,o,oa,rfl,row,hrow,hma⟩:=hI k hk'
  have hrow2:=hE.row hrow
  refine zy ?_
  refine Wo_do rfl rfl rfl rfl (A_ix Und.h Tsz.h rfl rfl) ?_
  refine zy ?_
  refine Wo_callB rfl rfl rfl rfl rfl hbd rfl rfl (hp h' hE _ _ (List.getElem_mem hk') hma) (fun hb h2 hE2=>?_) (fun hb h2 hE2=>?_)
  ·refine zy ?_
   refine Wc_ret (Lv_ret rfl ⟨?_,hE.trans hE2⟩)
   have:l.findIdx? p=some k:=by
    rw[List.findIdx?_eq_some_iff_getElem]
    exact⟨hk',hb,fun j hj=>by simp[hno j (by omega) hj]⟩
   simp[firstI,this];rfl
  ·refine zy ?_
   refine⟨k+1,?_,rfl,hE.trans hE2,hk',?_,rfl,rfl,rfl,rfl,trivial⟩
   ·show l.length-(k+1)<l.length-k;omega
   ·intro j hj hlt
    rcases Nat.lt_or_ge j k with g|g
    ·exact hno j hj g
    ·have:j=k:=by omega
     subst this;exact hb
 ·have hk2:k=l.length:=by omega
  subst hk2
  refine zy ?_
  refine Wc_ret (Lv_ret rfl ⟨?_,hE⟩)
  have:l.findIdx? p=none:=by
   rw[List.findIdx?_eq_none_iff]
   intro x hx
   obtain⟨j,hj,rfl⟩:=List.getElem_of_mem hx
   exact hno j hj hj
  simp[firstI,this];rfl
theorem containsFuncK_sv {a:Option Addr}{cap:Nat}{l:List ScK}{h:Heap}{g:FuncId}{first capv:List Value}{p:ScK->Bool}(hI:RowsAt 4 ScKR h a l)(hbd:bodied Tryz.prog g=true)
  (hp:∀h1,Ext h h1->∀row x,x∈l->ScKR h1 row x->Sv Tryz.prog g (first++([.agg ⟨row⟩]++capv)) h1 (RetP fun v h'=>v=.bool (p x)/\Ext h1 h')) (hlen:l.length<9223372036854775808) :
  Sv Tryz.prog 181 [.slice a l.length cap,.func (.func g) ⟨first⟩ ⟨capv⟩] h (RetP fun v h'=>v=.bool (l.any p)/\Ext h h'):=by
 refine Sv_enter Tryz.func181 rfl (by rw[Tryz.ntmps181];rfl) ?_;show Wc Tryz.prog ⟨181,9,none⟩ _ _ _ _ _
 refine zy ?_
 refine Wo_callE rfl rfl rfl rfl rfl Bod.h rfl rfl (indexK_sv hI hbd hp hlen) fun h1 hE1=>?_
 refine zy ?_
 refine Wo_dec rfl rfl rfl rfl (A_geq rfl rfl) (fun hb=>?_) (fun hb=>?_)
 ·refine zy ?_
  exact Wc_ret (Lv_ret rfl ⟨by rw[<-firstI_any,decide_eq_true hb];rfl,hE1⟩)
 ·refine zy ?_
  exact Wc_ret (Lv_ret rfl ⟨by rw[<-firstI_any,decide_eq_false hb];rfl,hE1⟩)
def rOk (W V:List UInt8)(land:Int)(D:Sp)(r:ScR):Bool:=decide (r.work=W/\(r.version=[]\/r.version=V)/\r.land=land/\inSp D r.days)
theorem rightB_eq (t:ScT)(s:ScS):rightB t s=t.rights.any (rOk (workS t s) (versS t s) (venAt t s).land (daysS t s)):=rfl
theorem ShowAt.row {h:Heap}{b bH:Nat}{t:ScT}{s:ScS}(a:ShowAt h b bH t s):h.get b=some (.cells [i64 s.venue,i64 s.print,i64 s.pack,i64 s.minute,i64 s.speed,i64 s.worth,.pointer (some ⟨bH,0,none⟩),str (workS t s),str (versS t s),
 str (venAt t s).name,i64 (venAt t s).land,i64 (venAt t s).proj,i64 (venAt t s).speeds.lo,i64 (venAt t s).speeds.hi,i64 (venAt t s).change,i64 (venAt t s).spool,i64 (venAt t s).turn,.bool (venAt t s).digital,i64 (endS t s),i64 (daysS t s).lo,i64 (daysS t s).hi] 156 false):=a
set_option maxHeartbeats 2000000 in
theorem right_sv {bS bH:Nat}{t:ScT}{s:ScS}{h:Heap}(hS:ShowAt h bS bH t s)(hH:HouseAt h bH t)(hO:ScOk t):Sv Tryz.prog 143 [.pointer (some ⟨bS,0,none⟩)] h (RetP fun v h'=>v=i64 (if rightB t s=false then 211 else 0)/\Ext h h'):=by
 obtain⟨row,ag,cg,aw,cw,ht,hgH,-,-⟩:=hH
 obtain⟨al,cl,at',ct,a1,c1',a2,c2',a3,c3',a4,c4',a5,c5',a6,c6',rfl,m1,m2,m3,m4,m5,m6,m7,m8⟩:=ht
 replace hgH:h.get bH=some (.cells [i64 t.first,.slice al t.lands.length cl,.slice at' t.travel.length ct,.slice a1 t.venues.length c1',.slice a2 t.rights.length c2',.slice a3 t.prints.length c3',.slice a4 t.packs.length c4',.slice a5 t.keys.length c5',.slice a6 t.loans.length c6',.slice ag (loansS t).1.length cg,.slice aw (loansS t).2.length cw] 147 false):=hgH
 have hgS:=hS.row
 have q1:=hO.rights1
 rw[rightB_eq]
 generalize workS t s=W at *
 generalize versS t s=V at *
 generalize daysS t s=D at *
 generalize (venAt t s).land=land at *
 refine Sv_wf fun hw=>?_
 refine Sv_enter Tryz.func143 rfl (by rw[Tryz.ntmps143];rfl) ?_;show Wc Tryz.prog ⟨143,60,none⟩ _ _ _ _ _
 refine zy ?_
 refine Wc_loop (fun (k:Nat) m ds h'=>ds=[]/\Ext h h'/\k<=t.rights.length/\(∀j (hj:j<t.rights.length),j<k->rOk W V land D t.rights[j]=false)/\AllK m [(0,.pointer (some ⟨bS,0,none⟩)),(13,.slice a2 t.rights.length c2'),(14,i64 t.rights.length),(15,i64 k)])
  (fun k=>t.rights.length-k) 0 ?_ ?_
 ·exact⟨rfl,Ext.refl _,Nat.zero_le _,(fun _ _ hj=>by omega),rfl,rfl,rfl,rfl,trivial⟩
 rintro k m ds h3 ⟨rfl,hE3,hk,hno,hall⟩
 refine Wc_wf fun hw3=>?_
 refine Wc.le ?_ (Le.kn hall)
 refine zy ?_
 refine Wo_dec rfl rfl rfl rfl (A_lss rfl rfl) (fun h4=>?_) (fun h4=>?_)
 rotate_left
 ·refine zy ?_
  refine Wc_ret (Lv_ret rfl ⟨?_,hE3⟩)
  have:t.rights.any (rOk W V land D)=false:=by
   rw[List.any_eq_false]
   intro x hx
   obtain⟨j,hj,rfl⟩:=List.getElem_of_mem hx
   rw[hno j hj (by omega)];simp
  rw[this,if_pos rfl];rfl
 have hk':k<t.rights.length:=by simpa using h4
 have hyes:rOk W V land D t.rights[k]=true->t.rights.any (rOk W V land D)=true:=fun e=>List.any_eq_true.2 ⟨_,List.getElem_mem hk',e⟩
 have hnext:rOk W V land D t.rights[k]=false->∀j (hj:j<t.rights.length),j<k+1->rOk W V land D t.rights[j]=false:=fun e j hj hlt=>by
  rcases Nat.lt_or_ge j k with g|g
  ·exact hno j hj g
  ·have:j=k:=by omega
   subst this;exact e
 obtain⟨b,o,oa,rfl,rw',hrow,hma⟩:=m4 k hk'
 have hrow3:=hE3.row hrow
 have hgS3:=hE3.get hgS
 generalize hmk:t.rights[k]=r at *
 obtain rfl:=hma
 refine zy ?_
 refine Wo_do rfl rfl rfl rfl (A_ix Und.h Tsz.h rfl rfl) ?_
 refine zy ?_
 refine Wo_allocStore rfl rfl Zr.h Tsz.h rfl (fun _=>rfl) rfl rfl rfl fun h5 hE5 hW5 hg5 hn5=>?_
 have hE6:=hE3.trans hE5
 have hgS5:=hE5.get hgS3
 generalize h3.nx=b5 at *
 clear hgS3 hrow3 hn5 hE5
 refine zy ?_
 by_cases cw:r.work=W
 ·by_cases ce:r.version=[]
  ·skip
   by_cases cl:r.land=land
   ·by_cases cd:inSp D r.days
    ·refine Wc_draw hmix [0,1,0,4,12,28,63,127,255,511,1023,2047,4095,8191,4095,20479,53247,118783,262143,524287,1048575,2097151,4194303,8388607,4194303,20971519,54525951,121634815,255852543,536870911,1073741823,2147483647,4294967295,8589934591,17179869183,34359738367,4294967295,73014444031,274877906943,549755813887] [0,1,2,3,4,5,6,7,8,9,10,11,12,13,14,15,16,17,18,19,20,21,22,23,24,25,26,27,28,29,30,31,32,33,34,35,36,37] (some 38) [([39],none)] (by kernel_rfl) (by kernel_rfl) ?_
     refine z_f ?_;refine z_l ?_;refine z_m ?_;refine z_q ?_;refine z_f ?_;refine z_l ?_;refine Wp_pure rfl rfl rfl rfl rfl (fun _=>A_tt cw (A_eqlStr rfl rfl)) ?_;refine z_m ?_;refine g_f ?_;refine g_l ?_
     first|refine Wp_off rfl rfl rfl rfl ?_|refine Wp_pure rfl rfl rfl rfl rfl (fun _=>A_tt ce (A_eqlStr rfl rfl)) ?_
     refine g_m ?_;refine g_f ?_;refine g_l ?_;refine g_m ?_;refine g_q ?_;refine g_f ?_;refine g_l ?_;refine z_o ?_;refine g_p ?_;refine z_p ?_;refine z_m ?_;refine g_f ?_;refine g_l ?_;refine g_m ?_;refine g_q ?_;refine g_f ?_;refine g_f ?_;refine g_l ?_
     first|refine Wp_off rfl rfl rfl rfl ?_|refine Wp_pure rfl rfl rfl rfl rfl (fun _=>A_tt cl (A_eql rfl rfl)) ?_
     refine z_p ?_;refine z_m ?_;refine g_m ?_;refine g_q ?_;refine g_f ?_;refine g_r ?_;refine g_f ?_;refine g_r ?_
     refine Wp_eff [0,1,2,3,4,5,6,7,8,9,10,11,12,13,14,15,16,17,18,19,20,21,22,23,24,25,26,27,28,29,30,31,32,33,34,35,36,37] (by kernel_rfl) rfl (Stl_nil rfl) rfl nb rfl (W1_callE rfl rfl rfl rfl rfl Bod.h (Sv_ttE cd (within_sv (s:=D) (a:=r.days))) (fun h7 hE7=>?_))
     refine z_p ?_
     refine Wp_end (Stl_nil rfl) nb' ?_
     refine zy ?_
     exact Wc_ret (Lv_ret rfl ⟨by rw[hyes (decide_eq_true ⟨cw,.inl ce,cl,cd⟩)];rfl,hE6.trans hE7⟩)
    ·refine Wc_draw hmix [0,1,0,4,12,28,63,127,255,511,1023,2047,4095,8191,4095,20479,53247,118783,262143,524287,1048575,2097151,4194303,8388607,4194303,20971519,54525951,121634815,255852543,536870911,1073741823,2147483647,4294967295,8589934591,17179869183,34359738367,4294967295,73014444031,274877906943,549755813887] [0,1,2,3,4,5,6,7,8,9,10,11,12,13,14,15,16,17,18,19,20,21,22,23,24,25,26,27,28,29,30,31,32,33,34,35,36,37] (some 38) [([39],none)] (by kernel_rfl) (by kernel_rfl) ?_
     refine z_f ?_;refine z_l ?_;refine z_m ?_;refine z_q ?_;refine z_f ?_;refine z_l ?_;refine Wp_pure rfl rfl rfl rfl rfl (fun _=>A_tt cw (A_eqlStr rfl rfl)) ?_;refine z_m ?_;refine g_f ?_;refine g_l ?_
     first|refine Wp_off rfl rfl rfl rfl ?_|refine Wp_pure rfl rfl rfl rfl rfl (fun _=>A_tt ce (A_eqlStr rfl rfl)) ?_
     refine g_m ?_;refine g_f ?_;refine g_l ?_;refine g_m ?_;refine g_q ?_;refine g_f ?_;refine g_l ?_;refine z_o ?_;refine g_p ?_;refine z_p ?_;refine z_m ?_;refine g_f ?_;refine g_l ?_;refine g_m ?_;refine g_q ?_;refine g_f ?_;refine g_f ?_;refine g_l ?_
     first|refine Wp_off rfl rfl rfl rfl ?_|refine Wp_pure rfl rfl rfl rfl rfl (fun _=>A_tt cl (A_eql rfl rfl)) ?_
     refine z_p ?_;refine z_m ?_;refine g_m ?_;refine g_q ?_;refine g_f ?_;refine g_r ?_;refine g_f ?_;refine g_r ?_
     refine Wp_eff [0,1,2,3,4,5,6,7,8,9,10,11,12,13,14,15,16,17,18,19,20,21,22,23,24,25,26,27,28,29,30,31,32,33,34,35,36,37] (by kernel_rfl) rfl (Stl_nil rfl) rfl nb rfl (W1_callE rfl rfl rfl rfl rfl Bod.h (Sv_ffE cd (within_sv (s:=D) (a:=r.days))) (fun h7 hE7=>?_))
     refine z_p ?_
     refine Wp_end (Stl_nil rfl) nb' ?_
     have hr0:rOk W V land D r=false:=decide_eq_false (fun e=>cd e.2.2.2)
     refine zy ?_
     refine⟨k+1,(by show t.rights.length-(k+1)<t.rights.length-k;omega),rfl,hE6.trans hE7,hk',hnext hr0,rfl,rfl,rfl,rfl,trivial⟩
   ·refine Wc_draw hmix [0,1,0,4,12,28,63,127,255,511,1023,2047,4095,8191,4095,20479,53247,118783,262143,524287,1048575,2097151,4194303,8388607,4194303,20971519,54525951,121634815,255852543,536870911,1073741823,2147483647,4294967295,8589934591,17179869183,34359738367,4294967295,73014444031,274877906943,549755813887] [0,1,2,3,4,5,6,7,8,9,10,11,12,13,14,15,16,17,18,19,20,21,22,23,24,25,26,27,28,29,30,31,32,33,34,35,36,37] (some 38) [([39],none)] (by kernel_rfl) (by kernel_rfl) ?_
    refine z_f ?_;refine z_l ?_;refine z_m ?_;refine z_q ?_;refine z_f ?_;refine z_l ?_;refine Wp_pure rfl rfl rfl rfl rfl (fun _=>A_tt cw (A_eqlStr rfl rfl)) ?_;refine z_m ?_;refine g_f ?_;refine g_l ?_
    first|refine Wp_off rfl rfl rfl rfl ?_|refine Wp_pure rfl rfl rfl rfl rfl (fun _=>A_tt ce (A_eqlStr rfl rfl)) ?_
    refine g_m ?_;refine g_f ?_;refine g_l ?_;refine g_m ?_;refine g_q ?_;refine g_f ?_;refine g_l ?_;refine z_o ?_;refine g_p ?_;refine z_p ?_;refine z_m ?_;refine g_f ?_;refine g_l ?_;refine g_m ?_;refine g_q ?_;refine g_f ?_;refine g_f ?_;refine g_l ?_
    first|refine Wp_off rfl rfl rfl rfl ?_|refine Wp_pure rfl rfl rfl rfl rfl (fun _=>A_ff cl (A_eql rfl rfl)) ?_
    refine z_p ?_;refine z_m ?_;refine g_m ?_;refine g_q ?_;refine g_f ?_;refine g_r ?_;refine g_f ?_;refine g_r ?_
    refine Wp_eff [0,1,2,3,4,5,6,7,8,9,10,11,12,13,14,15,16,17,18,19,20,21,22,23,24,25,26,27,28,29,30,31,32,33,34,35,36,37] (by kernel_rfl) rfl (Stl_nil rfl) rfl nb rfl (W1_off rfl ?_)
    refine z_p ?_
    refine Wp_end (Stl_nil rfl) nb' ?_
    have hr0:rOk W V land D r=false:=decide_eq_false (fun e=>cl e.2.2.1)
    refine zy ?_
    refine⟨k+1,(by show t.rights.length-(k+1)<t.rights.length-k;omega),rfl,hE6,hk',hnext hr0,rfl,rfl,rfl,rfl,trivial⟩
  ·by_cases cv:r.version=V
   ·skip
    by_cases cl:r.land=land
    ·by_cases cd:inSp D r.days
     ·refine Wc_draw hmix [0,1,0,4,12,28,63,127,255,511,1023,2047,4095,8191,4095,20479,53247,118783,262143,524287,1048575,2097151,4194303,8388607,4194303,20971519,54525951,121634815,255852543,536870911,1073741823,2147483647,4294967295,8589934591,17179869183,34359738367,4294967295,73014444031,274877906943,549755813887] [0,1,2,3,4,5,6,7,8,9,10,11,12,13,14,15,16,17,18,19,20,21,22,23,24,25,26,27,28,29,30,31,32,33,34,35,36,37] (some 38) [([39],none)] (by kernel_rfl) (by kernel_rfl) ?_
      refine z_f ?_;refine z_l ?_;refine z_m ?_;refine z_q ?_;refine z_f ?_;refine z_l ?_;refine Wp_pure rfl rfl rfl rfl rfl (fun _=>A_tt cw (A_eqlStr rfl rfl)) ?_;refine z_m ?_;refine g_f ?_;refine g_l ?_
      first|refine Wp_off rfl rfl rfl rfl ?_|refine Wp_pure rfl rfl rfl rfl rfl (fun _=>A_ff ce (A_eqlStr rfl rfl)) ?_
      refine g_m ?_;refine g_f ?_;refine g_l ?_;refine g_m ?_;refine g_q ?_;refine g_f ?_;refine g_l ?_
      first|refine Wp_off rfl rfl rfl rfl ?_|refine Wp_pure rfl rfl rfl rfl rfl (fun _=>A_tt cv (A_eqlStr rfl rfl)) ?_
      refine g_p ?_;refine z_p ?_;refine z_m ?_;refine g_f ?_;refine g_l ?_;refine g_m ?_;refine g_q ?_;refine g_f ?_;refine g_f ?_;refine g_l ?_
      first|refine Wp_off rfl rfl rfl rfl ?_|refine Wp_pure rfl rfl rfl rfl rfl (fun _=>A_tt cl (A_eql rfl rfl)) ?_
      refine z_p ?_;refine z_m ?_;refine g_m ?_;refine g_q ?_;refine g_f ?_;refine g_r ?_;refine g_f ?_;refine g_r ?_
      refine Wp_eff [0,1,2,3,4,5,6,7,8,9,10,11,12,13,14,15,16,17,18,19,20,21,22,23,24,25,26,27,28,29,30,31,32,33,34,35,36,37] (by kernel_rfl) rfl (Stl_nil rfl) rfl nb rfl (W1_callE rfl rfl rfl rfl rfl Bod.h (Sv_ttE cd (within_sv (s:=D) (a:=r.days))) (fun h7 hE7=>?_))
      refine z_p ?_
      refine Wp_end (Stl_nil rfl) nb' ?_
      refine zy ?_
      exact Wc_ret (Lv_ret rfl ⟨by rw[hyes (decide_eq_true ⟨cw,.inr cv,cl,cd⟩)];rfl,hE6.trans hE7⟩)
     ·refine Wc_draw hmix [0,1,0,4,12,28,63,127,255,511,1023,2047,4095,8191,4095,20479,53247,118783,262143,524287,1048575,2097151,4194303,8388607,4194303,20971519,54525951,121634815,255852543,536870911,1073741823,2147483647,4294967295,8589934591,17179869183,34359738367,4294967295,73014444031,274877906943,549755813887] [0,1,2,3,4,5,6,7,8,9,10,11,12,13,14,15,16,17,18,19,20,21,22,23,24,25,26,27,28,29,30,31,32,33,34,35,36,37] (some 38) [([39],none)] (by kernel_rfl) (by kernel_rfl) ?_
      refine z_f ?_;refine z_l ?_;refine z_m ?_;refine z_q ?_;refine z_f ?_;refine z_l ?_;refine Wp_pure rfl rfl rfl rfl rfl (fun _=>A_tt cw (A_eqlStr rfl rfl)) ?_;refine z_m ?_;refine g_f ?_;refine g_l ?_
      first|refine Wp_off rfl rfl rfl rfl ?_|refine Wp_pure rfl rfl rfl rfl rfl (fun _=>A_ff ce (A_eqlStr rfl rfl)) ?_
      refine g_m ?_;refine g_f ?_;refine g_l ?_;refine g_m ?_;refine g_q ?_;refine g_f ?_;refine g_l ?_
      first|refine Wp_off rfl rfl rfl rfl ?_|refine Wp_pure rfl rfl rfl rfl rfl (fun _=>A_tt cv (A_eqlStr rfl rfl)) ?_
      refine g_p ?_;refine z_p ?_;refine z_m ?_;refine g_f ?_;refine g_l ?_;refine g_m ?_;refine g_q ?_;refine g_f ?_;refine g_f ?_;refine g_l ?_
      first|refine Wp_off rfl rfl rfl rfl ?_|refine Wp_pure rfl rfl rfl rfl rfl (fun _=>A_tt cl (A_eql rfl rfl)) ?_
      refine z_p ?_;refine z_m ?_;refine g_m ?_;refine g_q ?_;refine g_f ?_;refine g_r ?_;refine g_f ?_;refine g_r ?_
      refine Wp_eff [0,1,2,3,4,5,6,7,8,9,10,11,12,13,14,15,16,17,18,19,20,21,22,23,24,25,26,27,28,29,30,31,32,33,34,35,36,37] (by kernel_rfl) rfl (Stl_nil rfl) rfl nb rfl (W1_callE rfl rfl rfl rfl rfl Bod.h (Sv_ffE cd (within_sv (s:=D) (a:=r.days))) (fun h7 hE7=>?_))
      refine z_p ?_
      refine Wp_end (Stl_nil rfl) nb' ?_
      have hr0:rOk W V land D r=false:=decide_eq_false (fun e=>cd e.2.2.2)
      refine zy ?_
      refine⟨k+1,(by show t.rights.length-(k+1)<t.rights.length-k;omega),rfl,hE6.trans hE7,hk',hnext hr0,rfl,rfl,rfl,rfl,trivial⟩
    ·refine Wc_draw hmix [0,1,0,4,12,28,63,127,255,511,1023,2047,4095,8191,4095,20479,53247,118783,262143,524287,1048575,2097151,4194303,8388607,4194303,20971519,54525951,121634815,255852543,536870911,1073741823,2147483647,4294967295,8589934591,17179869183,34359738367,4294967295,73014444031,274877906943,549755813887] [0,1,2,3,4,5,6,7,8,9,10,11,12,13,14,15,16,17,18,19,20,21,22,23,24,25,26,27,28,29,30,31,32,33,34,35,36,37] (some 38) [([39],none)] (by kernel_rfl) (by kernel_rfl) ?_
     refine z_f ?_;refine z_l ?_;refine z_m ?_;refine z_q ?_;refine z_f ?_;refine z_l ?_;refine Wp_pure rfl rfl rfl rfl rfl (fun _=>A_tt cw (A_eqlStr rfl rfl)) ?_;refine z_m ?_;refine g_f ?_;refine g_l ?_
     first|refine Wp_off rfl rfl rfl rfl ?_|refine Wp_pure rfl rfl rfl rfl rfl (fun _=>A_ff ce (A_eqlStr rfl rfl)) ?_
     refine g_m ?_;refine g_f ?_;refine g_l ?_;refine g_m ?_;refine g_q ?_;refine g_f ?_;refine g_l ?_
     first|refine Wp_off rfl rfl rfl rfl ?_|refine Wp_pure rfl rfl rfl rfl rfl (fun _=>A_tt cv (A_eqlStr rfl rfl)) ?_
     refine g_p ?_;refine z_p ?_;refine z_m ?_;refine g_f ?_;refine g_l ?_;refine g_m ?_;refine g_q ?_;refine g_f ?_;refine g_f ?_;refine g_l ?_
     first|refine Wp_off rfl rfl rfl rfl ?_|refine Wp_pure rfl rfl rfl rfl rfl (fun _=>A_ff cl (A_eql rfl rfl)) ?_
     refine z_p ?_;refine z_m ?_;refine g_m ?_;refine g_q ?_;refine g_f ?_;refine g_r ?_;refine g_f ?_;refine g_r ?_
     refine Wp_eff [0,1,2,3,4,5,6,7,8,9,10,11,12,13,14,15,16,17,18,19,20,21,22,23,24,25,26,27,28,29,30,31,32,33,34,35,36,37] (by kernel_rfl) rfl (Stl_nil rfl) rfl nb rfl (W1_off rfl ?_)
     refine z_p ?_
     refine Wp_end (Stl_nil rfl) nb' ?_
     have hr0:rOk W V land D r=false:=decide_eq_false (fun e=>cl e.2.2.1)
     refine zy ?_
     refine⟨k+1,(by show t.rights.length-(k+1)<t.rights.length-k;omega),rfl,hE6,hk',hnext hr0,rfl,rfl,rfl,rfl,trivial⟩
   ·refine Wc_draw hmix [0,1,0,4,12,28,63,127,255,511,1023,2047,4095,8191,4095,20479,53247,118783,262143,524287,1048575,2097151,4194303,8388607,4194303,20971519,54525951,121634815,255852543,536870911,1073741823,2147483647,4294967295,8589934591,17179869183,34359738367,4294967295,73014444031,274877906943,549755813887] [0,1,2,3,4,5,6,7,8,9,10,11,12,13,14,15,16,17,18,19,20,21,22,23,24,25,26,27,28,29,30,31,32,33,34,35,36,37] (some 38) [([39],none)] (by kernel_rfl) (by kernel_rfl) ?_
    refine z_f ?_;refine z_l ?_;refine z_m ?_;refine z_q ?_;refine z_f ?_;refine z_l ?_;refine Wp_pure rfl rfl rfl rfl rfl (fun _=>A_tt cw (A_eqlStr rfl rfl)) ?_;refine z_m ?_;refine g_f ?_;refine g_l ?_
    first|refine Wp_off rfl rfl rfl rfl ?_|refine Wp_pure rfl rfl rfl rfl rfl (fun _=>A_ff ce (A_eqlStr rfl rfl)) ?_
    refine g_m ?_;refine g_f ?_;refine g_l ?_;refine g_m ?_;refine g_q ?_;refine g_f ?_;refine g_l ?_
    first|refine Wp_off rfl rfl rfl rfl ?_|refine Wp_pure rfl rfl rfl rfl rfl (fun _=>A_ff cv (A_eqlStr rfl rfl)) ?_
    refine g_p ?_;refine z_p ?_;refine z_m ?_;refine g_f ?_;refine g_l ?_;refine g_m ?_;refine g_q ?_;refine g_f ?_;refine g_f ?_;refine g_l ?_;refine z_o ?_;refine z_p ?_;refine z_m ?_;refine g_m ?_;refine g_q ?_;refine g_f ?_;refine g_r ?_;refine g_f ?_;refine g_r ?_
    refine Wp_eff [0,1,2,3,4,5,6,7,8,9,10,11,12,13,14,15,16,17,18,19,20,21,22,23,24,25,26,27,28,29,30,31,32,33,34,35,36,37] (by kernel_rfl) rfl (Stl_nil rfl) rfl nb rfl (W1_off rfl ?_)
    refine z_p ?_
    refine Wp_end (Stl_nil rfl) nb' ?_
    have hr0:rOk W V land D r=false:=decide_eq_false (fun e=>e.2.1.elim ce cv)
    refine zy ?_
    refine⟨k+1,(by show t.rights.length-(k+1)<t.rights.length-k;omega),rfl,hE6,hk',hnext hr0,rfl,rfl,rfl,rfl,trivial⟩
 ·refine Wc_draw hmix [0,1,0,4,12,28,63,127,255,511,1023,2047,4095,8191,4095,20479,53247,118783,262143,524287,1048575,2097151,4194303,8388607,4194303,20971519,54525951,121634815,255852543,536870911,1073741823,2147483647,4294967295,8589934591,17179869183,34359738367,4294967295,73014444031,274877906943,549755813887] [0,1,2,3,4,5,6,7,8,9,10,11,12,13,14,15,16,17,18,19,20,21,22,23,24,25,26,27,28,29,30,31,32,33,34,35,36,37] (some 38) [([39],none)] (by kernel_rfl) (by kernel_rfl) ?_
  refine z_f ?_;refine z_l ?_;refine z_m ?_;refine z_q ?_;refine z_f ?_;refine z_l ?_;refine Wp_pure rfl rfl rfl rfl rfl (fun _=>A_ff cw (A_eqlStr rfl rfl)) ?_;refine z_m ?_;refine g_f ?_;refine g_l ?_;refine z_o ?_;refine g_m ?_;refine g_f ?_;refine g_l ?_;refine g_m ?_;refine g_q ?_;refine g_f ?_;refine g_l ?_;refine z_o ?_;refine g_p ?_;refine z_p ?_;refine z_m ?_;refine g_f ?_;refine g_l ?_;refine g_m ?_;refine g_q ?_;refine g_f ?_;refine g_f ?_;refine g_l ?_;refine z_o ?_;refine z_p ?_;refine z_m ?_;refine g_m ?_;refine g_q ?_;refine g_f ?_;refine g_r ?_;refine g_f ?_;refine g_r ?_
  refine Wp_eff [0,1,2,3,4,5,6,7,8,9,10,11,12,13,14,15,16,17,18,19,20,21,22,23,24,25,26,27,28,29,30,31,32,33,34,35,36,37] (by kernel_rfl) rfl (Stl_nil rfl) rfl nb rfl (W1_off rfl ?_)
  refine z_p ?_
  refine Wp_end (Stl_nil rfl) nb' ?_
  have hr0:rOk W V land D r=false:=decide_eq_false (fun e=>cw e.1)
  refine zy ?_
  refine⟨k+1,(by show t.rights.length-(k+1)<t.rights.length-k;omega),rfl,hE6,hk',hnext hr0,rfl,rfl,rfl,rfl,trivial⟩
def lOk (s:ScS)(D:Sp)(l:ScL):Bool:=decide (l.print=s.print/\l.venue=s.venue/\inSp D l.days)
theorem hereB_eq (t:ScT)(s:ScS):hereB t s=(loansS t).1.any (lOk s (daysS t s)):=rfl
set_option maxHeartbeats 2000000 in
theorem film1_sv {bS bH bP:Nat}{t:ScT}{s:ScS}{x:ScL}{row:List Value}{h:Heap}(hS:ShowAt h bS bH t s)(hP:h.get bP=some (.cells [.pointer (some ⟨bS,0,none⟩)] 152 false))(hx:ScLR h row x):Sv Tryz.prog 177 ([]++([.agg ⟨row⟩]++[.pointer (some ⟨bP,0,none⟩)])) h (RetP fun v h'=>v=.bool (lOk s (daysS t s) x)/\Ext h h'):=by
 obtain rfl:=hx
 have hgS:=hS.row
 generalize daysS t s=D at *
 refine Sv_wf fun hw=>?_
 refine Sv_enter Tryz.func177 rfl (by rw[Tryz.ntmps177];rfl) ?_;show Wc Tryz.prog ⟨177,31,none⟩ _ _ _ _ _
 refine zy ?_
 refine Wo_box rfl rfl rfl fun h1 hE1 hW1 hg1 hn1=>?_
 replace hgS:=hE1.get hgS
 replace hP:=hE1.get hP
 generalize h.nx=b1 at *
 refine zy ?_
 by_cases c1:x.print=s.print
 ·by_cases c2:x.venue=s.venue
  ·by_cases c3:inSp D x.days
   ·refine Wc_draw hmix [0,1,0,4,12,28,60,127,255,511,1023,511,2559,6655,14847,31231,65535,131071,262143,524287,1048575,2097151,4194303,524287,8912895,33554431,67108863,134217727] [0,1,2,3,4,5,6,7,8,9,10,11,12,13,14,15,16,17,18,19,20,21,22,23,24] (some 25) [([26],(some 27)),([],none)] (by kernel_rfl) (by kernel_rfl) ?_
    refine z_f ?_;refine z_l ?_;refine z_l ?_;refine z_q ?_;refine z_f ?_;refine z_f ?_;refine z_l ?_;refine Wp_pure rfl rfl rfl rfl rfl (fun _=>A_tt c1 (A_eql rfl rfl)) ?_;refine z_m ?_;refine g_f ?_;refine g_l ?_;refine g_l ?_;refine g_q ?_;refine g_f ?_;refine g_f ?_;refine g_l ?_
    first|refine Wp_off rfl rfl rfl rfl ?_|refine Wp_pure rfl rfl rfl rfl rfl (fun _=>A_tt c2 (A_eql rfl rfl)) ?_
    refine z_p ?_;refine z_m ?_;refine g_l ?_;refine g_q ?_;refine g_f ?_;refine g_r ?_;refine g_f ?_;refine g_r ?_
    refine Wp_eff [0,1,2,3,4,5,6,7,8,9,10,11,12,13,14,15,16,17,18,19,20,21,22,23,24] (by kernel_rfl) rfl (Stl_nil rfl) rfl nb rfl (W1_callE rfl rfl rfl rfl rfl Bod.h (Sv_ttE c3 (within_sv (s:=D) (a:=x.days))) (fun h2 hE2=>?_))
    refine z_p ?_
    refine Wp_eff [0,1,2,3,4,5,6,7,8,9,10,11,12,13,14,15,16,17,18,19,20,21,22,23,24,25,26] (by kernel_rfl) rfl (Stl_nil rfl) rfl nb rfl (W1_op rfl rfl (A_assign rfl) ?_)
    refine Wp_end (Stl_nil rfl) nb' ?_
    refine zy ?_
    exact Wc_ret (Lv_ret rfl ⟨by rw[show lOk s D x=true from decide_eq_true ⟨c1,c2,c3⟩];rfl,hE1.trans hE2⟩)
   ·refine Wc_draw hmix [0,1,0,4,12,28,60,127,255,511,1023,511,2559,6655,14847,31231,65535,131071,262143,524287,1048575,2097151,4194303,524287,8912895,33554431,67108863,134217727] [0,1,2,3,4,5,6,7,8,9,10,11,12,13,14,15,16,17,18,19,20,21,22,23,24] (some 25) [([26],(some 27)),([],none)] (by kernel_rfl) (by kernel_rfl) ?_
    refine z_f ?_;refine z_l ?_;refine z_l ?_;refine z_q ?_;refine z_f ?_;refine z_f ?_;refine z_l ?_;refine Wp_pure rfl rfl rfl rfl rfl (fun _=>A_tt c1 (A_eql rfl rfl)) ?_;refine z_m ?_;refine g_f ?_;refine g_l ?_;refine g_l ?_;refine g_q ?_;refine g_f ?_;refine g_f ?_;refine g_l ?_
    first|refine Wp_off rfl rfl rfl rfl ?_|refine Wp_pure rfl rfl rfl rfl rfl (fun _=>A_tt c2 (A_eql rfl rfl)) ?_
    refine z_p ?_;refine z_m ?_;refine g_l ?_;refine g_q ?_;refine g_f ?_;refine g_r ?_;refine g_f ?_;refine g_r ?_
    refine Wp_eff [0,1,2,3,4,5,6,7,8,9,10,11,12,13,14,15,16,17,18,19,20,21,22,23,24] (by kernel_rfl) rfl (Stl_nil rfl) rfl nb rfl (W1_callE rfl rfl rfl rfl rfl Bod.h (Sv_ffE c3 (within_sv (s:=D) (a:=x.days))) (fun h2 hE2=>?_))
    refine z_p ?_
    refine Wp_eff [0,1,2,3,4,5,6,7,8,9,10,11,12,13,14,15,16,17,18,19,20,21,22,23,24,25,26] (by kernel_rfl) rfl (Stl_nil rfl) rfl nb rfl (W1_op rfl rfl (A_assign rfl) ?_)
    refine Wp_end (Stl_nil rfl) nb' ?_
    refine zy ?_
    exact Wc_ret (Lv_ret rfl ⟨by rw[show lOk s D x=false from decide_eq_false (fun e=>c3 e.2.2)];rfl,hE1.trans hE2⟩)
  ·refine Wc_draw hmix [0,1,0,4,12,28,60,127,255,511,1023,511,2559,6655,14847,31231,65535,131071,262143,524287,1048575,2097151,4194303,524287,8912895,33554431,67108863,134217727] [0,1,2,3,4,5,6,7,8,9,10,11,12,13,14,15,16,17,18,19,20,21,22,23,24] (some 25) [([26],(some 27)),([],none)] (by kernel_rfl) (by kernel_rfl) ?_
   refine z_f ?_;refine z_l ?_;refine z_l ?_;refine z_q ?_;refine z_f ?_;refine z_f ?_;refine z_l ?_;refine Wp_pure rfl rfl rfl rfl rfl (fun _=>A_tt c1 (A_eql rfl rfl)) ?_;refine z_m ?_;refine g_f ?_;refine g_l ?_;refine g_l ?_;refine g_q ?_;refine g_f ?_;refine g_f ?_;refine g_l ?_
   first|refine Wp_off rfl rfl rfl rfl ?_|refine Wp_pure rfl rfl rfl rfl rfl (fun _=>A_ff c2 (A_eql rfl rfl)) ?_
   refine z_p ?_;refine z_m ?_;refine g_l ?_;refine g_q ?_;refine g_f ?_;refine g_r ?_;refine g_f ?_;refine g_r ?_
   refine Wp_eff [0,1,2,3,4,5,6,7,8,9,10,11,12,13,14,15,16,17,18,19,20,21,22,23,24] (by kernel_rfl) rfl (Stl_nil rfl) rfl nb rfl (W1_off rfl ?_)
   refine z_p ?_
   refine Wp_eff [0,1,2,3,4,5,6,7,8,9,10,11,12,13,14,15,16,17,18,19,20,21,22,23,24,25,26] (by kernel_rfl) rfl (Stl_nil rfl) rfl nb rfl (W1_op rfl rfl (A_assign rfl) ?_)
   refine Wp_end (Stl_nil rfl) nb' ?_
   refine zy ?_
   exact Wc_ret (Lv_ret rfl ⟨by rw[show lOk s D x=false from decide_eq_false (fun e=>c2 e.2.1)];rfl,hE1⟩)
 ·refine Wc_draw hmix [0,1,0,4,12,28,60,127,255,511,1023,511,2559,6655,14847,31231,65535,131071,262143,524287,1048575,2097151,4194303,524287,8912895,33554431,67108863,134217727] [0,1,2,3,4,5,6,7,8,9,10,11,12,13,14,15,16,17,18,19,20,21,22,23,24] (some 25) [([26],(some 27)),([],none)] (by kernel_rfl) (by kernel_rfl) ?_
  refine z_f ?_;refine z_l ?_;refine z_l ?_;refine z_q ?_;refine z_f ?_;refine z_f ?_;refine z_l ?_;refine Wp_pure rfl rfl rfl rfl rfl (fun _=>A_ff c1 (A_eql rfl rfl)) ?_;refine z_m ?_;refine g_f ?_;refine g_l ?_;refine g_l ?_;refine g_q ?_;refine g_f ?_;refine g_f ?_;refine g_l ?_;refine z_o ?_;refine z_p ?_;refine z_m ?_;refine g_l ?_;refine g_q ?_;refine g_f ?_;refine g_r ?_;refine g_f ?_;refine g_r ?_
  refine Wp_eff [0,1,2,3,4,5,6,7,8,9,10,11,12,13,14,15,16,17,18,19,20,21,22,23,24] (by kernel_rfl) rfl (Stl_nil rfl) rfl nb rfl (W1_off rfl ?_)
  refine z_p ?_
  refine Wp_eff [0,1,2,3,4,5,6,7,8,9,10,11,12,13,14,15,16,17,18,19,20,21,22,23,24,25,26] (by kernel_rfl) rfl (Stl_nil rfl) rfl nb rfl (W1_op rfl rfl (A_assign rfl) ?_)
  refine Wp_end (Stl_nil rfl) nb' ?_
  refine zy ?_
  exact Wc_ret (Lv_ret rfl ⟨by rw[show lOk s D x=false from decide_eq_false (fun e=>c1 e.1)];rfl,hE1⟩)
def kOk (s:ScS)(D:Sp)(k:ScK):Bool:=decide (k.pack=s.pack/\k.venue=s.venue/\inSp D k.window)
theorem keyB_eq (t:ScT)(s:ScS):keyB t s=t.keys.any (kOk s ⟨s.minute,endS t s⟩):=rfl
set_option maxHeartbeats 2000000 in
theorem digital1_sv {bS bH bP:Nat}{t:ScT}{s:ScS}{x:ScK}{row:List Value}{h:Heap}(hS:ShowAt h bS bH t s)(hP:h.get bP=some (.cells [.pointer (some ⟨bS,0,none⟩)] 152 false))(hx:ScKR h row x):Sv Tryz.prog 180 ([]++([.agg ⟨row⟩]++[.pointer (some ⟨bP,0,none⟩)])) h (RetP fun v h'=>v=.bool (kOk s ⟨s.minute,endS t s⟩ x)/\Ext h h'):=by
 obtain rfl:=hx
 have hgS:=hS.row
 generalize endS t s=E at *
 refine Sv_wf fun hw=>?_
 refine Sv_enter Tryz.func180 rfl (by rw[Tryz.ntmps180];rfl) ?_;show Wc Tryz.prog ⟨180,37,none⟩ _ _ _ _ _
 refine zy ?_
 refine Wo_box rfl rfl rfl fun h1 hE1 hW1 hg1 hn1=>?_
 replace hgS:=hE1.get hgS
 replace hP:=hE1.get hP
 generalize h.nx=b1 at *
 refine zy ?_
 by_cases c1:x.pack=s.pack
 ·by_cases c2:x.venue=s.venue
  ·by_cases c3:inSp ⟨s.minute,E⟩ x.window
   ·refine Wc_draw hmix [0,1,0,4,12,28,60,127,255,511,1023,511,2559,6655,14847,31231,65535,131071,262143,524287,1048575,2097151,4194303,8388607,524287,17301503,50855935,117964799,268435455,524287,537395199,2147483647,4294967295,8589934591] [0,1,2,3,4,5,6,7,8,9,10,11,12,13,14,15,16,17,18,19,20,21,22,23,24,25,26,27,28,29,30] (some 31) [([32],(some 33)),([],none)] (by kernel_rfl) (by kernel_rfl) ?_
    refine z_f ?_;refine z_l ?_;refine z_l ?_;refine z_q ?_;refine z_f ?_;refine z_f ?_;refine z_l ?_;refine Wp_pure rfl rfl rfl rfl rfl (fun _=>A_tt c1 (A_eql rfl rfl)) ?_;refine z_m ?_;refine g_f ?_;refine g_l ?_;refine g_l ?_;refine g_q ?_;refine g_f ?_;refine g_f ?_;refine g_l ?_
    first|refine Wp_off rfl rfl rfl rfl ?_|refine Wp_pure rfl rfl rfl rfl rfl (fun _=>A_tt c2 (A_eql rfl rfl)) ?_
    refine z_p ?_;refine z_m ?_;refine g_l ?_;refine g_q ?_;refine g_f ?_;refine g_f ?_;refine g_l ?_;refine g_l ?_;refine g_q ?_;refine g_f ?_;refine g_l ?_;refine g_b ?_;refine g_f ?_;refine g_r ?_
    refine Wp_eff [0,1,2,3,4,5,6,7,8,9,10,11,12,13,14,15,16,17,18,19,20,21,22,23,24,25,26,27,28,29,30] (by kernel_rfl) rfl (Stl_nil rfl) rfl nb rfl (W1_callE rfl rfl rfl rfl rfl Bod.h (Sv_ttE c3 (within_sv (s:=⟨s.minute,E⟩) (a:=x.window))) (fun h2 hE2=>?_))
    refine z_p ?_
    refine Wp_eff [0,1,2,3,4,5,6,7,8,9,10,11,12,13,14,15,16,17,18,19,20,21,22,23,24,25,26,27,28,29,30,31,32] (by kernel_rfl) rfl (Stl_nil rfl) rfl nb rfl (W1_op rfl rfl (A_assign rfl) ?_)
    refine Wp_end (Stl_nil rfl) nb' ?_
    refine zy ?_
    exact Wc_ret (Lv_ret rfl ⟨by rw[show kOk s ⟨s.minute,E⟩ x=true from decide_eq_true ⟨c1,c2,c3⟩];rfl,hE1.trans hE2⟩)
   ·refine Wc_draw hmix [0,1,0,4,12,28,60,127,255,511,1023,511,2559,6655,14847,31231,65535,131071,262143,524287,1048575,2097151,4194303,8388607,524287,17301503,50855935,117964799,268435455,524287,537395199,2147483647,4294967295,8589934591] [0,1,2,3,4,5,6,7,8,9,10,11,12,13,14,15,16,17,18,19,20,21,22,23,24,25,26,27,28,29,30] (some 31) [([32],(some 33)),([],none)] (by kernel_rfl) (by kernel_rfl) ?_
    refine z_f ?_;refine z_l ?_;refine z_l ?_;refine z_q ?_;refine z_f ?_;refine z_f ?_;refine z_l ?_;refine Wp_pure rfl rfl rfl rfl rfl (fun _=>A_tt c1 (A_eql rfl rfl)) ?_;refine z_m ?_;refine g_f ?_;refine g_l ?_;refine g_l ?_;refine g_q ?_;refine g_f ?_;refine g_f ?_;refine g_l ?_
    first|refine Wp_off rfl rfl rfl rfl ?_|refine Wp_pure rfl rfl rfl rfl rfl (fun _=>A_tt c2 (A_eql rfl rfl)) ?_
    refine z_p ?_;refine z_m ?_;refine g_l ?_;refine g_q ?_;refine g_f ?_;refine g_f ?_;refine g_l ?_;refine g_l ?_;refine g_q ?_;refine g_f ?_;refine g_l ?_;refine g_b ?_;refine g_f ?_;refine g_r ?_
    refine Wp_eff [0,1,2,3,4,5,6,7,8,9,10,11,12,13,14,15,16,17,18,19,20,21,22,23,24,25,26,27,28,29,30] (by kernel_rfl) rfl (Stl_nil rfl) rfl nb rfl (W1_callE rfl rfl rfl rfl rfl Bod.h (Sv_ffE c3 (within_sv (s:=⟨s.minute,E⟩) (a:=x.window))) (fun h2 hE2=>?_))
    refine z_p ?_
    refine Wp_eff [0,1,2,3,4,5,6,7,8,9,10,11,12,13,14,15,16,17,18,19,20,21,22,23,24,25,26,27,28,29,30,31,32] (by kernel_rfl) rfl (Stl_nil rfl) rfl nb rfl (W1_op rfl rfl (A_assign rfl) ?_)
    refine Wp_end (Stl_nil rfl) nb' ?_
    refine zy ?_
    exact Wc_ret (Lv_ret rfl ⟨by rw[show kOk s ⟨s.minute,E⟩ x=false from decide_eq_false (fun e=>c3 e.2.2)];rfl,hE1.trans hE2⟩)
  ·refine Wc_draw hmix [0,1,0,4,12,28,60,127,255,511,1023,511,2559,6655,14847,31231,65535,131071,262143,524287,1048575,2097151,4194303,8388607,524287,17301503,50855935,117964799,268435455,524287,537395199,2147483647,4294967295,8589934591] [0,1,2,3,4,5,6,7,8,9,10,11,12,13,14,15,16,17,18,19,20,21,22,23,24,25,26,27,28,29,30] (some 31) [([32],(some 33)),([],none)] (by kernel_rfl) (by kernel_rfl) ?_
   refine z_f ?_;refine z_l ?_;refine z_l ?_;refine z_q ?_;refine z_f ?_;refine z_f ?_;refine z_l ?_;refine Wp_pure rfl rfl rfl rfl rfl (fun _=>A_tt c1 (A_eql rfl rfl)) ?_;refine z_m ?_;refine g_f ?_;refine g_l ?_;refine g_l ?_;refine g_q ?_;refine g_f ?_;refine g_f ?_;refine g_l ?_
   first|refine Wp_off rfl rfl rfl rfl ?_|refine Wp_pure rfl rfl rfl rfl rfl (fun _=>A_ff c2 (A_eql rfl rfl)) ?_
   refine z_p ?_;refine z_m ?_;refine g_l ?_;refine g_q ?_;refine g_f ?_;refine g_f ?_;refine g_l ?_;refine g_l ?_;refine g_q ?_;refine g_f ?_;refine g_l ?_;refine g_b ?_;refine g_f ?_;refine g_r ?_
   refine Wp_eff [0,1,2,3,4,5,6,7,8,9,10,11,12,13,14,15,16,17,18,19,20,21,22,23,24,25,26,27,28,29,30] (by kernel_rfl) rfl (Stl_nil rfl) rfl nb rfl (W1_off rfl ?_)
   refine z_p ?_
   refine Wp_eff [0,1,2,3,4,5,6,7,8,9,10,11,12,13,14,15,16,17,18,19,20,21,22,23,24,25,26,27,28,29,30,31,32] (by kernel_rfl) rfl (Stl_nil rfl) rfl nb rfl (W1_op rfl rfl (A_assign rfl) ?_)
   refine Wp_end (Stl_nil rfl) nb' ?_
   refine zy ?_
   exact Wc_ret (Lv_ret rfl ⟨by rw[show kOk s ⟨s.minute,E⟩ x=false from decide_eq_false (fun e=>c2 e.2.1)];rfl,hE1⟩)
 ·refine Wc_draw hmix [0,1,0,4,12,28,60,127,255,511,1023,511,2559,6655,14847,31231,65535,131071,262143,524287,1048575,2097151,4194303,8388607,524287,17301503,50855935,117964799,268435455,524287,537395199,2147483647,4294967295,8589934591] [0,1,2,3,4,5,6,7,8,9,10,11,12,13,14,15,16,17,18,19,20,21,22,23,24,25,26,27,28,29,30] (some 31) [([32],(some 33)),([],none)] (by kernel_rfl) (by kernel_rfl) ?_
  refine z_f ?_;refine z_l ?_;refine z_l ?_;refine z_q ?_;refine z_f ?_;refine z_f ?_;refine z_l ?_;refine Wp_pure rfl rfl rfl rfl rfl (fun _=>A_ff c1 (A_eql rfl rfl)) ?_;refine z_m ?_;refine g_f ?_;refine g_l ?_;refine g_l ?_;refine g_q ?_;refine g_f ?_;refine g_f ?_;refine g_l ?_;refine z_o ?_;refine z_p ?_;refine z_m ?_;refine g_l ?_;refine g_q ?_;refine g_f ?_;refine g_f ?_;refine g_l ?_;refine g_l ?_;refine g_q ?_;refine g_f ?_;refine g_l ?_;refine g_b ?_;refine g_f ?_;refine g_r ?_
  refine Wp_eff [0,1,2,3,4,5,6,7,8,9,10,11,12,13,14,15,16,17,18,19,20,21,22,23,24,25,26,27,28,29,30] (by kernel_rfl) rfl (Stl_nil rfl) rfl nb rfl (W1_off rfl ?_)
  refine z_p ?_
  refine Wp_eff [0,1,2,3,4,5,6,7,8,9,10,11,12,13,14,15,16,17,18,19,20,21,22,23,24,25,26,27,28,29,30,31,32] (by kernel_rfl) rfl (Stl_nil rfl) rfl nb rfl (W1_op rfl rfl (A_assign rfl) ?_)
  refine Wp_end (Stl_nil rfl) nb' ?_
  refine zy ?_
  exact Wc_ret (Lv_ret rfl ⟨by rw[show kOk s ⟨s.minute,E⟩ x=false from decide_eq_false (fun e=>c1 e.1)];rfl,hE1⟩)
def maxL:List Int->Int
 | []=>0
 | x::l=>l.foldl max x
theorem maxL_snoc {l:List Int}(h:l≠[])(y:Int):maxL (l++[y])=max (maxL l) y:=by
 cases l with
 | nil=>exact absurd rfl h
 | cons x l=>simp[maxL,List.foldl_append]
theorem maxL_any {l:List Int}(h:l≠[])(c:Int):(c<maxL l) ↔ (l.any fun n=>decide (c<n))=true:=by
 refine snocInd (p:=fun l=>l≠[]->((c<maxL l) ↔ (l.any fun n=>decide (c<n))=true)) (fun h=>absurd rfl h) (fun l x ih _=>?_) l h
 by_cases e:l=[]
 ·subst e;simp[maxL]
 ·rw[maxL_snoc e,List.any_append,Bool.or_eq_true,<-ih e]
  simp only[List.any_cons,List.any_nil,Bool.or_false,decide_eq_true_eq]
  omega
theorem maxI_sv {a:Option Addr}{cap:Nat}{l:List Int}{h:Heap}(hI:IntsAt h a l)(h0:l≠[])(hL:Len l):Sv Tryz.prog 179 [.slice a l.length cap] h (RetP fun v h'=>v=i64 (maxL l)/\h'=h):=by
 have hp:0<l.length:=List.length_pos_iff.2 h0
 obtain⟨b,o,oa,rfl,hc⟩:=hI 0 hp
 refine Sv_enter Tryz.func179 rfl (by rw[Tryz.ntmps179];rfl) ?_;show Wc Tryz.prog ⟨179,25,none⟩ _ _ _ _ _
 refine zy ?_
 refine Wo_do rfl rfl rfl rfl (A_ff (by omega) (A_lss rfl rfl)) ?_
 refine zy ?_
 refine Wo_do rfl rfl rfl rfl (A_indexAddr (k:=0) Und.h Tsz.h rfl rfl rfl hp) ?_
 refine zy ?_
 refine Wc_loop (fun (k:Nat) m ds h'=>ds=[]/\h=h'/\1<=k/\k<=l.length/\AllK m [(0,.slice (some ⟨b,o,oa⟩) l.length cap),(3,i64 (maxL (l.take k))),(4,i64 k)]) (fun k=>l.length-k) 1 ?_ ?_
 ·refine⟨rfl,rfl,Nat.le_refl _,hp,rfl,?_,rfl,trivial⟩
  cases l with
  | nil=>exact absurd rfl h0
  | cons x l=>rfl
 rintro k m ds h' ⟨rfl,rfl,hk1,hk,hall⟩
 refine Wc.le ?_ (Le.kn hall)
 refine zy ?_
 refine Wo_dec rfl rfl rfl rfl (A_lss rfl rfl) (fun h4=>?_) (fun h4=>?_)
 ·have hk':k<l.length:=by simpa using h4
  obtain⟨b',o',oa',e',hc'⟩:=hI k hk'
  cases e'
  have hm:maxL (l.take (k+1))=max (maxL (l.take k)) l[k]:=by
   rw[List.take_add_one,List.getElem?_eq_getElem hk']
   exact maxL_snoc (fun e=>by have:=congrArg List.length e;rw[List.length_take,List.length_nil] at this;omega) _
  refine zy ?_
  refine Wo_do rfl rfl rfl rfl (A_ix Und.h Tsz.h rfl rfl) ?_
  refine zy ?_
  refine Wo_do rfl rfl rfl rfl (A_max rfl rfl) ?_
  refine zy ?_
  refine⟨k+1,(by show l.length-(k+1)<l.length-k;omega),rfl,rfl,by omega,hk',rfl,?_,rfl,trivial⟩
  rw[hm];rfl
 have hk2:k=l.length:=by omega
 subst hk2
 rw[List.take_length]
 refine zy ?_
 exact Wc_ret (Lv_ret rfl ⟨rfl,rfl⟩)
set_option maxHeartbeats 2000000 in
theorem film_sv {bS bH:Nat}{t:ScT}{s:ScS}{h:Heap}(hS:ShowAt h bS bH t s)(hH:HouseAt h bH t)(hO:ScOk t)(hs0:shownErr t s=0):Sv Tryz.prog 144 [.pointer (some ⟨bS,0,none⟩)] h (RetP fun v h'=>v=i64 (if s.print<0 then 0 else filmS t s)/\Ext h h'):=by
 obtain⟨row,ag,cg,aw,cw,ht,hgH,hGr,-⟩:=hH
 obtain⟨al,cl,at',ct,a1,c1',a2,c2',a3,c3',a4,c4',a5,c5',a6,c6',rfl,m1,m2,m3,m4,m5,m6,m7,m8⟩:=ht
 replace hgH:h.get bH=some (.cells [i64 t.first,.slice al t.lands.length cl,.slice at' t.travel.length ct,.slice a1 t.venues.length c1',.slice a2 t.rights.length c2',.slice a3 t.prints.length c3',.slice a4 t.packs.length c4',.slice a5 t.keys.length c5',.slice a6 t.loans.length c6',.slice ag (loansS t).1.length cg,.slice aw (loansS t).2.length cw] 147 false):=hgH
 have hgS:=hS.row
 have q1:=hO.prints1
 have q2:(loansS t).1.length<=t.loans.length:=by rw[<-lpre_all];exact (lpre_ok hO (Nat.le_refl _)).2.1
 have q3:=hO.loans1
 obtain⟨⟨v1,v2⟩,hpp,-,⟨sp1,sp2⟩,-⟩:=shown_ok hs0
 refine Sv_wf fun hw=>?_
 refine Sv_enter Tryz.func144 rfl (by rw[Tryz.ntmps144];rfl) ?_;show Wc Tryz.prog ⟨144,81,none⟩ _ _ _ _ _
 refine zy ?_
 refine Wo_box rfl rfl rfl fun h1 hE1 hW1 hg1 hn1=>?_
 have k1:=hE1.get hgS
 have kH1:=hE1.get hgH
 have hS1:=hS.ext hE1
 refine zy ?_
 by_cases c0:s.print<0
 ·refine Wo_do rfl rfl rfl rfl (A_tt c0 (A_lss rfl rfl)) ?_
  refine zy ?_
  exact Wc_ret (Lv_ret rfl ⟨by rw[if_pos c0];rfl,hE1⟩)
 rw[if_neg c0]
 refine Wo_do rfl rfl rfl rfl (A_ff c0 (A_lss rfl rfl)) ?_
 refine zy ?_
 have hprint:0<=s.print/\s.print<t.prints.length/\s.pack = -1:=by omega
 obtain⟨bp,op,oap,rfl,ap,cp,hrp,hI⟩:=pr_row (RowsAt.ext (R:=ScPR) (fun x y=>ScPR.ext x y) m5 hE1) (s:=s) hprint.1 hprint.2.1
 obtain⟨⟨l1,l2⟩,l3,-,-⟩:=print_ok (pr_ok hO hs0 hprint.2.2)
 have hfilm:filmS t s=if (loansS t).1.any (lOk s (daysS t s))=false then 212 else if (venAt t s).proj=0\/¬inSp ⟨s.speed,s.speed⟩ (venAt t s).speeds\/¬inSp ⟨s.speed,s.speed⟩ (prAt t s).speeds then 215 else if (venAt t s).spool<maxL (prAt t s).reels then 216 else 0:=by
  unfold filmS inSp
  rw[hereB_eq]
  simp only[maxL_any (show (prAt t s).reels≠[] from fun e=>by rw[e] at l1;simp at l1) (venAt t s).spool]
 rw[hfilm]
 have hRl:(prAt t s).reels≠[]:=fun e=>by rw[e] at l1;simp at l1
 have hp1:∀{h':Heap},Ext h1 h'->∀row x,x∈(loansS t).1->ScLR h' row x->Sv Tryz.prog 177 ([]++([.agg ⟨row⟩]++[.pointer (some ⟨h.nx,0,none⟩)])) h' (RetP fun v h''=>v=.bool (lOk s (daysS t s) x)/\Ext h' h''):=fun hE row x _ hx=>film1_sv (hS1.ext hE) (hE.get hg1) hx
 generalize daysS t s=D at *
 generalize endS t s=E at *
 generalize workS t s=W at *
 generalize versS t s=V at *
 generalize hVe:venAt t s=Ve at *
 generalize hPr:prAt t s=Pr at *
 have hEa:=Ext.add hW1 (.cells [str [],str [],str [],.slice none 0 0,i64 0,i64 0,i64 0] 56 false)
 have hEb:=hEa.trans (Ext.add (hW1.add _) (.cells [str [],i64 0,i64 0,i64 0,i64 0,i64 0,i64 0,i64 0,.bool false] 54 false))
 have ga:((h1.add (.cells [str [],str [],str [],.slice none 0 0,i64 0,i64 0,i64 0] 56 false)).add (.cells [str [],i64 0,i64 0,i64 0,i64 0,i64 0,i64 0,i64 0,.bool false] 54 false)).get h1.nx=some (.cells [str [],str [],str [],.slice none 0 0,i64 0,i64 0,i64 0] 56 false):=(Ext.add (hW1.add _) _).get Heap.get_add_same
 have gb:((h1.add (.cells [str [],str [],str [],.slice none 0 0,i64 0,i64 0,i64 0] 56 false)).add (.cells [str [],i64 0,i64 0,i64 0,i64 0,i64 0,i64 0,i64 0,.bool false] 54 false)).get (h1.nx+1)=some (.cells [str [],i64 0,i64 0,i64 0,i64 0,i64 0,i64 0,i64 0,.bool false] 54 false):=Heap.get_add_same
 refine Wc_draw hmix [0,1,3,7,15,31,63,127,255,0,512,1536,3584,7680,16383,32767,0,65536,196608,458752,0,0,3211263,8388607] [0,1,2,3,4,5,6,7,8,9,10,11,12,13,14,15,16,17,18,19,20,21] (some 22) [([],(some 23)),([],none)] (by kernel_rfl) (by kernel_rfl) ?_
 refine z_l ?_;refine z_q ?_;refine z_f ?_;refine z_l ?_;refine z_q ?_;refine z_f ?_;refine z_f ?_;refine z_f ?_;refine z_l ?_;refine z_l ?_;refine z_q ?_;refine z_f ?_;refine z_f ?_;refine z_l ?_;refine Wp_pure rfl rfl rfl rfl rfl (fun _=>A_indexAddr (k:=s.print.toNat) Und.h Tsz.h rfl rfl (by omega) (by omega)) ?_;refine z_r ?_;refine z_l ?_;refine z_q ?_;refine z_f ?_;refine z_r ?_
 refine Wp_new (nk:=.ptr) rfl rfl rfl rfl rfl (fun _ _ _=>N_alloc Zr.h) ?_
 refine Wp_new (nk:=.ptr) rfl rfl rfl rfl rfl (fun _ _ _=>N_alloc Zr.h) ?_
 refine Wp_eff (h1:=(Heap.add (Heap.add h1 _) _)) [0,1,2,3,4,5,6,7,8,9,10,11,12,13,14,15,20,21] (by kernel_rfl) rfl (Stl_nil rfl) rfl rfl rfl (W1_wfK (W1_store rfl rfl Tsz.h rfl rfl ga rfl rfl rfl (fun h5 hU5 hW5=>?_)))
 have hE5:=hU5.ext hEb hW1 (Nat.le_refl _)
 have gb5:=hU5.get (show h1.nx+1≠h1.nx by omega) gb
 have k5:=hE5.get k1
 have kg5:=hE5.get hg1
 refine Wp_eff (h1:=h5) [0,1,2,3,4,5,6,7,8,9,10,11,12,13,14,15,16,17,18,19,20,21,22] (by kernel_rfl) rfl (by refine t_r 19 ?_;refine t_f 18 ?_;refine t_q 17 ?_;refine t_l 16 ?_;exact Stl_nil rfl) rfl rfl rfl (W1_wfK (W1_store rfl rfl Tsz.h rfl rfl gb5 rfl rfl rfl (fun h6 hU6 hW6=>?_)))
 have hE6:=hU6.ext hE5 hW1 (Nat.le_succ _)
 refine Wp_end (h1:=h6) (Stl_nil rfl) rfl ?_
 have gP:=hU6.get (show h1.nx≠h1.nx+1 by omega) hU5.at'
 have gV:=hU6.at'
 have k6:=hE6.get k1
 have kg6:=hE6.get hg1
 have kH6:=hE6.get kH1
 clear k5 kg5 gb5 ga gb hEb hEa hU5 hU6 hE5 hW5
 generalize h1.nx+1=bV at *
 generalize h1.nx=bP at *
 refine zy ?_
 refine Wc_draw hmix [0,1,3,7,15,0,32,96,224,480,1023,0,4095] [0,1,2,3,4,5,6,7,8,9,10,11] (some 12) [([],none)] (by kernel_rfl) (by kernel_rfl) ?_
 refine z_l ?_;refine z_q ?_;refine z_f ?_;refine z_f ?_;refine z_l ?_;refine z_l ?_;refine z_q ?_;refine z_f ?_;refine z_f ?_;refine z_l ?_;refine z_b ?_
 refine Wp_new (nk:=.ptr) rfl rfl rfl rfl rfl (fun _ _ _=>N_alloc Zr.h) ?_
 refine Wp_eff (h1:=(Heap.add h6 _)) [0,1,2,3,4,5,6,7,8,9,10,11] (by kernel_rfl) rfl (Stl_nil rfl) rfl rfl rfl (W1_wfK (W1_store rfl rfl Tsz.h rfl rfl Heap.get_add_same rfl rfl rfl (fun h7 hU7 hW7=>?_)))
 have hE67:=hU7.ext (Ext.add hW6 _) hW6 (Nat.le_refl _)
 refine Wp_end (h1:=h7) (Stl_nil rfl) rfl ?_
 have gQ:=hU7.at'
 replace gP:=hE67.get gP
 replace gV:=hE67.get gV
 have k7:=hE67.get k6
 have kg7:=hE67.get kg6
 have kH7:=hE67.get kH6
 have hE7:=hE6.trans hE67
 clear k6 kg6 kH6 hU7 hE67 hE6
 generalize h6.nx=bQ at *
 refine zy ?_
 refine Wo_callB rfl rfl rfl rfl rfl Bod.h rfl rfl (containsFuncL_sv (first:=[]) (RowsAt.ext (R:=ScLR) (fun x _=>x) hGr (hE1.trans hE7)) Bod.h (fun h' hE'=>hp1 (hE7.trans hE')) (by omega)) (fun c1 h8 hE8=>?_) (fun c1 h8 hE8=>?_)
 rotate_left
 ·refine zy ?_
  exact Wc_ret (Lv_ret rfl ⟨by rw[if_pos c1];rfl,hE1.trans (hE7.trans hE8)⟩)
 rw[if_neg (by rw[c1];simp)]
 replace gP:=hE8.get gP
 replace gV:=hE8.get gV
 replace gQ:=hE8.get gQ
 replace hE8:=hE7.trans hE8
 clear k7 kg7 kH7 hE7
 refine zy ?_
 refine Wo_dec rfl rfl rfl rfl (A_eql rfl rfl) (fun c2=>?_) (fun c2=>?_)
 ·refine zy ?_
  exact Wc_ret (Lv_ret rfl ⟨by rw[if_pos (.inl c2)];rfl,hE1.trans hE8⟩)
 refine zy ?_
 refine Wo_callB rfl rfl rfl rfl rfl Bod.h rfl rfl (within_sv (s:=⟨s.speed,s.speed⟩) (a:=Ve.speeds)) (fun c3 h9 hE9=>?_) (fun c3 h9 hE9=>?_)
 rotate_left
 ·refine zy ?_
  exact Wc_ret (Lv_ret rfl ⟨by rw[if_pos (.inr (.inl (of_decide_eq_false c3)))];rfl,hE1.trans (hE8.trans hE9)⟩)
 replace gP:=hE9.get gP
 replace gV:=hE9.get gV
 replace gQ:=hE9.get gQ
 replace hE9:=hE8.trans hE9
 refine zy ?_
 refine Wo_callB rfl rfl rfl rfl rfl Bod.h rfl rfl (within_sv (s:=⟨s.speed,s.speed⟩) (a:=Pr.speeds)) (fun c4 h10 hE10=>?_) (fun c4 h10 hE10=>?_)
 rotate_left
 ·refine zy ?_
  exact Wc_ret (Lv_ret rfl ⟨by rw[if_pos (.inr (.inr (of_decide_eq_false c4)))];rfl,hE1.trans (hE9.trans hE10)⟩)
 replace gP:=hE10.get gP
 replace gV:=hE10.get gV
 replace hE10:=hE9.trans hE10
 rw[if_neg (fun x=>x.elim c2 fun x=>x.elim (fun y=>y (of_decide_eq_true c3)) (fun y=>y (of_decide_eq_true c4)))]
 have hI10:=hI.ext hE10
 refine zy ?_
 by_cases c5:Ve.spool<maxL Pr.reels
 ·rw[if_pos c5]
  refine Wc_draw hmix [0,1,3,0,8,31,63] [0,1,3,4] (some 2) [([5],(some 6)),([],none)] (by kernel_rfl) (by kernel_rfl) ?_
  refine z_f ?_;refine z_l ?_;refine z_f ?_;refine z_l ?_
  refine Wp_eff [0,1] (by kernel_rfl) rfl (Stl_nil rfl) rfl nb rfl (W1_callV rfl rfl rfl rfl rfl Bod.h (maxI_sv hI10 hRl (by omega)) ?_)
  refine Wp_pure rfl rfl rfl rfl rfl (fun _=>A_tt c5 (A_gtr rfl rfl)) ?_
  refine Wp_eff [0,1,2,3,4,5] (by kernel_rfl) rfl (by refine t_l 4 ?_;refine t_f 3 ?_;exact Stl_nil rfl) rfl nb rfl (W1_op rfl rfl (A_assign rfl) ?_)
  refine Wp_end (Stl_nil rfl) nb' ?_
  refine zy ?_
  exact Wc_ret (Lv_ret rfl ⟨rfl,hE1.trans hE10⟩)
 ·rw[if_neg c5]
  refine Wc_draw hmix [0,1,3,0,8,31,63] [0,1,3,4] (some 2) [([5],(some 6)),([],none)] (by kernel_rfl) (by kernel_rfl) ?_
  refine z_f ?_;refine z_l ?_;refine z_f ?_;refine z_l ?_
  refine Wp_eff [0,1] (by kernel_rfl) rfl (Stl_nil rfl) rfl nb rfl (W1_callV rfl rfl rfl rfl rfl Bod.h (maxI_sv hI10 hRl (by omega)) ?_)
  refine Wp_pure rfl rfl rfl rfl rfl (fun _=>A_ff c5 (A_gtr rfl rfl)) ?_
  refine Wp_eff [0,1,2,3,4,5] (by kernel_rfl) rfl (by refine t_l 4 ?_;refine t_f 3 ?_;exact Stl_nil rfl) rfl nb rfl (W1_op rfl rfl (A_assign rfl) ?_)
  refine Wp_end (Stl_nil rfl) nb' ?_
  refine zy ?_
  exact Wc_ret (Lv_ret rfl ⟨rfl,hE1.trans hE10⟩)
set_option maxHeartbeats 2000000 in
theorem digital_sv {bS bH:Nat}{t:ScT}{s:ScS}{h:Heap}(hS:ShowAt h bS bH t s)(hH:HouseAt h bH t)(hO:ScOk t)(hs0:shownErr t s=0):Sv Tryz.prog 145 [.pointer (some ⟨bS,0,none⟩)] h (RetP fun v h'=>v=i64 (if s.pack<0 then 0 else digiS t s)/\Ext h h'):=by
 obtain⟨row,ag,cg,aw,cw,ht,hgH,hGr,-⟩:=hH
 obtain⟨al,cl,at',ct,a1,c1',a2,c2',a3,c3',a4,c4',a5,c5',a6,c6',rfl,m1,m2,m3,m4,m5,m6,m7,m8⟩:=ht
 replace hgH:h.get bH=some (.cells [i64 t.first,.slice al t.lands.length cl,.slice at' t.travel.length ct,.slice a1 t.venues.length c1',.slice a2 t.rights.length c2',.slice a3 t.prints.length c3',.slice a4 t.packs.length c4',.slice a5 t.keys.length c5',.slice a6 t.loans.length c6',.slice ag (loansS t).1.length cg,.slice aw (loansS t).2.length cw] 147 false):=hgH
 have hgS:=hS.row
 have q1:=hO.packs1
 have q3:=hO.keys1
 obtain⟨⟨v1,v2⟩,hpp,-,⟨sp1,sp2⟩,-⟩:=shown_ok hs0
 refine Sv_wf fun hw=>?_
 refine Sv_enter Tryz.func145 rfl (by rw[Tryz.ntmps145];rfl) ?_;show Wc Tryz.prog ⟨145,55,none⟩ _ _ _ _ _
 refine zy ?_
 refine Wo_box rfl rfl rfl fun h1 hE1 hW1 hg1 hn1=>?_
 have k1:=hE1.get hgS
 have kH1:=hE1.get hgH
 have hS1:=hS.ext hE1
 refine zy ?_
 by_cases c0:s.pack<0
 ·refine Wo_do rfl rfl rfl rfl (A_tt c0 (A_lss rfl rfl)) ?_
  refine zy ?_
  exact Wc_ret (Lv_ret rfl ⟨by rw[if_pos c0];rfl,hE1⟩)
 rw[if_neg c0]
 refine Wo_do rfl rfl rfl rfl (A_ff c0 (A_lss rfl rfl)) ?_
 have hpack:0<=s.pack/\s.pack<t.packs.length:=by omega
 have hp1:∀{h':Heap},Ext h1 h'->∀row x,x∈t.keys->ScKR h' row x->Sv Tryz.prog 180 ([]++([.agg ⟨row⟩]++[.pointer (some ⟨h.nx,0,none⟩)])) h' (RetP fun v h''=>v=.bool (kOk s ⟨s.minute,endS t s⟩ x)/\Ext h' h''):=fun hE row x _ hx=>digital1_sv (hS1.ext hE) (hE.get hg1) hx
 unfold digiS
 rw[keyB_eq]
 generalize endS t s=E at *
 generalize daysS t s=D at *
 generalize workS t s=W at *
 generalize versS t s=V at *
 generalize hVe:venAt t s=Ve at *
 generalize h.nx=b1 at *
 refine zy ?_
 cases hd:Ve.digital with
 | false =>
  rw[hd] at k1
  refine zy ?_
  exact Wc_ret (Lv_ret rfl ⟨by rw[if_pos rfl];rfl,hE1⟩)
 | true =>
  rw[hd] at k1
  rw[if_neg (by decide)]
  refine zy ?_
  refine Wo_callB rfl rfl rfl rfl rfl Bod.h rfl rfl (containsFuncK_sv (first:=[]) (RowsAt.ext (R:=ScKR) (fun x _=>x) m7 hE1) Bod.h (fun h' hE'=>hp1 hE') (by omega)) (fun c1 h8 hE8=>?_) (fun c1 h8 hE8=>?_)
  rotate_left
  ·refine zy ?_
   exact Wc_ret (Lv_ret rfl ⟨by rw[if_pos c1];rfl,hE1.trans hE8⟩)
  rw[if_neg (by rw[c1];simp)]
  have k8:=hE8.get k1
  have kH8:=hE8.get kH1
  have kg8:=hE8.get hg1
  obtain⟨bp,op,oap,rfl,hrp⟩:=pk_row (RowsAt.ext (R:=ScPkR) (fun x _=>x) m6 (hE1.trans hE8)) (s:=s) hpack.1 hpack.2
  have hcs:cellAt h8 bp (op+s.pack.toNat*5+4)=some (i64 (pkAt t s).speed):=cell_of_row hrp rfl
  generalize pkAt t s=Pk at *
  refine zy ?_
  by_cases c2:s.speed=Pk.speed
  ·rw[if_neg (fun e=>e c2)]
   refine Wc_draw hmix [0,1,3,7,15,0,32,96,224,480,992,2016,4064,8160,0,16384,49152,114688,245760,524256,1048544,2097120,4194303,8388607] [0,1,2,3,4,5,6,7,8,9,10,11,12,13,14,15,16,17,18,19,20,21,22] (some 23) [([],none)] (by kernel_rfl) (by kernel_rfl) ?_
   refine z_l ?_;refine z_q ?_;refine z_f ?_;refine z_f ?_;refine z_l ?_;refine z_l ?_;refine z_q ?_;refine z_f ?_;refine z_l ?_;refine z_q ?_;refine z_f ?_;refine z_f ?_;refine z_f ?_;refine z_l ?_;refine z_l ?_;refine z_q ?_;refine z_f ?_;refine z_f ?_;refine z_l ?_;refine Wp_pure rfl rfl rfl rfl rfl (fun _=>A_indexAddr (k:=s.pack.toNat) Und.h Tsz.h rfl rfl (by omega) (by omega)) ?_;refine z_f ?_;refine z_l ?_;refine Wp_pure rfl rfl rfl rfl rfl (fun _=>A_ff (fun e=>e c2) (A_neq rfl rfl)) ?_
   refine Wp_eff [0,1,2,3,4,5,6,7,8,9,10,11,12,13,14,15,16,17,18,19,20,21,22] (by kernel_rfl) rfl (Stl_nil rfl) rfl nb rfl (W1_op rfl rfl (A_assign rfl) ?_)
   refine Wp_end (Stl_nil rfl) nb' ?_
   refine zy ?_
   exact Wc_ret (Lv_ret rfl ⟨rfl,hE1.trans hE8⟩)
  ·rw[if_pos c2]
   refine Wc_draw hmix [0,1,3,7,15,0,32,96,224,480,992,2016,4064,8160,0,16384,49152,114688,245760,524256,1048544,2097120,4194303,8388607] [0,1,2,3,4,5,6,7,8,9,10,11,12,13,14,15,16,17,18,19,20,21,22] (some 23) [([],none)] (by kernel_rfl) (by kernel_rfl) ?_
   refine z_l ?_;refine z_q ?_;refine z_f ?_;refine z_f ?_;refine z_l ?_;refine z_l ?_;refine z_q ?_;refine z_f ?_;refine z_l ?_;refine z_q ?_;refine z_f ?_;refine z_f ?_;refine z_f ?_;refine z_l ?_;refine z_l ?_;refine z_q ?_;refine z_f ?_;refine z_f ?_;refine z_l ?_;refine Wp_pure rfl rfl rfl rfl rfl (fun _=>A_indexAddr (k:=s.pack.toNat) Und.h Tsz.h rfl rfl (by omega) (by omega)) ?_;refine z_f ?_;refine z_l ?_;refine Wp_pure rfl rfl rfl rfl rfl (fun _=>A_tt c2 (A_neq rfl rfl)) ?_
   refine Wp_eff [0,1,2,3,4,5,6,7,8,9,10,11,12,13,14,15,16,17,18,19,20,21,22] (by kernel_rfl) rfl (Stl_nil rfl) rfl nb rfl (W1_op rfl rfl (A_assign rfl) ?_)
   refine Wp_end (Stl_nil rfl) nb' ?_
   refine zy ?_
   exact Wc_ret (Lv_ret rfl ⟨rfl,hE1.trans hE8⟩)
set_option maxHeartbeats 2000000 in
theorem why_sv {bS bH:Nat}{t:ScT}{s:ScS}{h:Heap}(hS:ShowAt h bS bH t s)(hH:HouseAt h bH t)(hO:ScOk t)(hs0:shownErr t s=0):Sv Tryz.prog 89 [.pointer (some ⟨bS,0,none⟩)] h (RetP fun v h'=>v=i64 (whyS t s)/\Ext h h'):=by
 obtain⟨-,hpp,-⟩:=shown_ok hs0
 have hWh:whyS t s=if rightB t s=false then 211 else if (if s.print<0 then 0 else filmS t s)≠0 then (if s.print<0 then 0 else filmS t s) else (if s.pack<0 then 0 else digiS t s):=by
  unfold whyS
  split
  ·rfl
  ·rcases hpp with ⟨p1,_,p2⟩|⟨p1,_,p2⟩
   ·rw[if_pos p1,if_neg (show ¬s.print<0 by omega),if_pos (show s.pack<0 by omega)]
    split
    ·rfl
    ·rename_i e;exact Classical.not_not.1 e
   ·rw[if_neg (show ¬0<=s.print by omega),if_pos (show s.print<0 by omega),if_neg (show ¬(0:Int)≠0 by simp),if_neg (show ¬s.pack<0 by omega)]
 have r1:=fun {h':Heap} (hE:Ext h h')=>right_sv (hS.ext hE) (hH.ext hE) hO
 have r2:=fun {h':Heap} (hE:Ext h h')=>film_sv (hS.ext hE) (hH.ext hE) hO hs0
 have r3:=fun {h':Heap} (hE:Ext h h')=>digital_sv (hS.ext hE) (hH.ext hE) hO hs0
 rw[hWh]
 generalize (if s.print<0 then 0 else filmS t s)=e2 at *
 generalize (if s.pack<0 then 0 else digiS t s)=e3 at *
 clear hS hH hWh hpp
 refine Sv_wf fun hw=>?_
 refine Sv_enter Tryz.func89 rfl (by rw[Tryz.ntmps89];rfl) ?_;show Wc Tryz.prog ⟨89,24,none⟩ _ _ _ _ _
 refine zy ?_
 refine Wo_bs rfl rfl Und.h Tsz.h Zr.h rfl rfl rfl rfl rfl fun h2 hE2 hW2 hg2 hn2=>?_
 generalize h.nx=bF at *
 refine zy ?_
 refine Wc_loop (fun (k:Nat) m ds h'=>ds=[]/\Ext h2 h'/\k<=3/\(0<k->rightB t s=true)/\(1<k->e2=0)/\(2<k->e3=0) ∧
   AllK m [(12,.slice (some ⟨bF,0,none⟩) 3 3),(13,i64 ((3:Nat):Int)),(14,i64 k)]) (fun k=>3-k) 0 ?_ ?_
 ·exact⟨rfl,Ext.refl _,by decide,(fun h=>absurd h (by decide)),(fun h=>absurd h (by decide)),(fun h=>absurd h (by decide)),rfl,rfl,rfl,trivial⟩
 rintro k m ds h3 ⟨rfl,hE3,hk,z1,z2,z3,hall⟩
 have hg3:=hE3.get hg2
 refine Wc.le ?_ (Le.kn hall)
 refine zy ?_
 refine Wo_dec rfl rfl rfl rfl (A_lss rfl rfl) (fun h4=>?_) (fun h4=>?_)
 rotate_left
 ·have hk3:k=3:=by omega
  subst hk3
  refine zy ?_
  exact Wc_ret (Lv_ret rfl ⟨by rw[z1 (by decide),z2 (by decide),z3 (by decide)];rfl,hE2.trans hE3⟩)
 have hk3:k=0\/k=1\/k=2:=by omega
 rcases hk3 with rfl|rfl|rfl
 ·refine zy ?_
  refine Wo_do rfl rfl rfl rfl (A_indexAddr (k:=0) Und.h Tsz.h rfl rfl rfl (by decide)) ?_
  refine zy ?_
  refine Wo_callE rfl rfl rfl rfl rfl Bod.h rfl rfl (r1 (hE2.trans hE3)) fun h5 hE5=>?_
  refine zy ?_
  refine Wo_dec rfl rfl rfl rfl (A_neq rfl rfl) (fun h6=>?_) (fun h6=>?_)
  ·refine zy ?_
   have hr:rightB t s=false:=by
    cases hq:rightB t s
    ·rfl
    ·rw[hq] at h6;exact absurd rfl h6
   exact Wc_ret (Lv_ret rfl ⟨by rw[hr];rfl,hE2.trans (hE3.trans hE5)⟩)
  have hr:rightB t s=true:=by
   cases hq:rightB t s
   ·rw[hq] at h6;exact absurd (by decide) h6
   ·rfl
  refine zy ?_
  exact⟨1,by decide,rfl,hE3.trans hE5,by decide,(fun _=>hr),(fun h=>absurd h (by decide)),(fun h=>absurd h (by decide)),rfl,rfl,rfl,trivial⟩
 ·refine zy ?_
  refine Wo_do rfl rfl rfl rfl (A_indexAddr (k:=1) Und.h Tsz.h rfl rfl rfl (by decide)) ?_
  refine zy ?_
  refine Wo_callE rfl rfl rfl rfl rfl Bod.h rfl rfl (r2 (hE2.trans hE3)) fun h5 hE5=>?_
  refine zy ?_
  refine Wo_dec rfl rfl rfl rfl (A_neq rfl rfl) (fun h6=>?_) (fun h6=>?_)
  ·refine zy ?_
   exact Wc_ret (Lv_ret rfl ⟨by rw[z1 (by decide),if_neg (by decide),if_pos h6];rfl,hE2.trans (hE3.trans hE5)⟩)
  replace h6:=Decidable.not_not.1 h6
  refine zy ?_
  exact⟨2,by decide,rfl,hE3.trans hE5,by decide,(fun _=>z1 (by decide)),(fun _=>h6),(fun h=>absurd h (by decide)),rfl,rfl,rfl,trivial⟩
 ·refine zy ?_
  refine Wo_do rfl rfl rfl rfl (A_indexAddr (k:=2) Und.h Tsz.h rfl rfl rfl (by decide)) ?_
  refine zy ?_
  refine Wo_callE rfl rfl rfl rfl rfl Bod.h rfl rfl (r3 (hE2.trans hE3)) fun h5 hE5=>?_
  refine zy ?_
  refine Wo_dec rfl rfl rfl rfl (A_neq rfl rfl) (fun h6=>?_) (fun h6=>?_)
  ·refine zy ?_
   exact Wc_ret (Lv_ret rfl ⟨by rw[z1 (by decide),if_neg (by decide),if_neg (fun e=>e (z2 (by decide)))];rfl,hE2.trans (hE3.trans hE5)⟩)
  replace h6:=Decidable.not_not.1 h6
  refine zy ?_
  exact⟨3,by decide,rfl,hE3.trans hE5,by decide,(fun _=>z1 (by decide)),(fun _=>z2 (by decide)),(fun _=>h6),rfl,rfl,rfl,trivial⟩
end Go.Dw
/- H4: contracts: why a show may not be, package telecineref11. -/
namespace Go.Dw
open Go Go.Dx Go.Proofs
set_option maxRecDepth 100000
end Go.Dw
/- H5: contracts: Long and May, packages screen and telecineref11. -/
namespace Go.Dw
open Go Go.Dx Go.Proofs
set_option maxRecDepth 100000
def longV (t:ScT)(s:ScS):Int×Int:=if errSc t=0 then if shownErr t s=0 then (longS t s,0) else (0,shownErr t s) else (0,errSc t)
def mayV (t:ScT)(s:ScS):Int×Int:=if errSc t=0 then if shownErr t s=0 then (whyS t s,0) else (0,shownErr t s) else (0,errSc t)
end Go.Dw
/- H6: contracts: shows in a list, package screen: over, disturbs, all, Play. -/
namespace Go.Dw
open Go Go.Dx Go.Proofs
set_option maxRecDepth 100000
abbrev ptrB (b:Nat):Value:=.pointer (some ⟨b,0,none⟩)
def ptrZ (z:Nat×ScS):Value:=.pointer (some ⟨z.1,0,none⟩)
def ShowsP (h:Heap)(bH:Nat)(t:ScT)(zs:List (Nat×ScS)):Prop:=∀z∈zs,ShowAt h z.1 bH t z.2
theorem ShowsP.ext {h h':Heap}{bH:Nat}{t:ScT}{zs:List (Nat×ScS)}(a:ShowsP h bH t zs)(he:Ext h h'):ShowsP h' bH t zs:=fun z hz=>he.get (a z hz)
def shI (bH:Nat)(t:ScT)(zs:List (Nat×ScS)):It where
 S:=fun c=>c∈zs.map Prod.fst
 p:=fun h=>ShowsP h bH t zs
 loc:=fun hk hp z hz=>hk _ _ (List.mem_map_of_mem hz) (hp z hz)
 ex:=fun hp hc=>by obtain⟨z,hz,rfl⟩:=List.mem_map.1 hc;exact⟨_,hp z hz⟩
def shVs (s:ScS):List Value:=[i64 s.venue,i64 s.print,i64 s.pack,i64 s.minute,i64 s.speed,i64 s.worth]
theorem shRows_at {h0 h:Heap}{v:Value}{P:List ScS}(hF:FreshSl h0 h v 42 6 (P.flatMap shVs) P.length):∃a c,v=.slice a P.length c/\RowsAt 6 ScSR h a P:=by
 rcases hF with ⟨rfl,_,h0⟩|⟨b,sp,op,rfl,hg,_⟩
 ·rw[h0]
  exact⟨none,0,rfl,fun i hi=>absurd hi (by omega)⟩
 ·refine⟨some ⟨b,0,sp⟩,P.length,rfl,fun i hi=>⟨b,0,sp,rfl,_,rowAt_cells hg ?_,rfl⟩⟩
  rw[Nat.zero_add]
  exact cut_flat (f:=shVs) (k:=6) hi fun _ _=>rfl
theorem over_rng {t:ScT}(hO:ScOk t){s:ScS}(hs0:shownErr t s=0):1<=overS t s/\overS t s<=200000/\endS t s<=overS t s/\s.minute<endS t s/\0<=s.minute:=by
 have hlr:=long_rng hO hs0
 obtain⟨-,-,⟨mi1,mi2⟩,-⟩:=shown_ok hs0
 obtain⟨-,-,-,⟨tu1,tu2⟩,-⟩:=venue_ok (ven_ok hO hs0)
 unfold overS endS
 omega
theorem over_sv {b bH:Nat}{t:ScT}{s:ScS}{h:Heap}(hS:ShowAt h b bH t s)(hO:ScOk t)(hs0:shownErr t s=0):Sv Tryz.prog 117 [.pointer (some ⟨b,0,none⟩)] h (RetP fun v h'=>v=i64 (overS t s)/\h'=h):=by
 have hlr:=long_rng hO hs0
 obtain⟨-,-,⟨mi1,mi2⟩,-⟩:=shown_ok hs0
 obtain⟨-,-,-,⟨tu1,tu2⟩,-⟩:=venue_ok (ven_ok hO hs0)
 have hov:overS t s=endS t s+(venAt t s).turn:=rfl
 have hEnd:endS t s=s.minute+longS t s:=rfl
 unfold ShowAt shRow at hS
 rw[hov]
 generalize endS t s=E at *
 generalize (venAt t s).turn=T at *
 refine Sv_enter Tryz.func117 rfl (by rw[Tryz.ntmps117];rfl) ?_;show Wc Tryz.prog ⟨117,13,none⟩ _ _ _ _ _
 refine zy ?_
 refine Wc_draw hmix [0,1,3,7,0,16,48,112,240,511,1023] [0,1,2,3,4,5,6,7,8,9] (some 10) [([],none)] (by kernel_rfl) (by kernel_rfl) ?_
 refine z_m ?_;refine z_q ?_;refine z_f ?_;refine z_l ?_;refine z_m ?_;refine z_q ?_;refine z_f ?_;refine z_f ?_;refine z_l ?_;refine z_y ?_
 refine Wp_eff [0,1,2,3,4,5,6,7,8,9] (by kernel_rfl) rfl (Stl_nil rfl) rfl nb rfl (W1_op rfl rfl (A_assign rfl) ?_)
 refine Wp_end (Stl_nil rfl) nb' ?_
 refine zy ?_
 exact Wc_ret (Lv_ret rfl ⟨rfl,rfl⟩)
set_option maxHeartbeats 1000000 in
theorem disturbs_sv {bx bz bH:Nat}{t:ScT}{x y:ScS}{h:Heap}(hX:ShowAt h bx bH t x)(hY:ShowAt h bz bH t y)(hO:ScOk t)(hx0:shownErr t x=0)(hy0:shownErr t y=0):Sv Tryz.prog 105 [.pointer (some ⟨bx,0,none⟩),.pointer (some ⟨bz,0,none⟩)] h (RetP fun v h'=>v=.bool (distB t x y)/\h'=h):=by
 have hoX:=over_sv hX hO hx0
 have hoY:=over_sv hY hO hy0
 unfold distB
 unfold ShowAt shRow at hX hY
 generalize overS t x=ox at *
 generalize overS t y=oy at *
 refine Sv_enter Tryz.func105 rfl (by rw[Tryz.ntmps105];rfl) ?_;show Wc Tryz.prog ⟨105,36,none⟩ _ _ _ _ _
 refine zy ?_
 by_cases e1:x.venue=y.venue
 rotate_left
 ·refine Wc_draw hmix [0,1,3,7,15,0,32,96,224,480,1023,2047,4095,8191,16383,32767,65535,4095,135167,524287,1048575,2097151,4194303,8388607,16777215,33554431,67108863,4194303,138412031,536870911,1073741823,2147483647] [0,1,2,3,4,5,6,7,8,9,10,11,12,13,14,15,16,17] (some 18) [([19,20,21,22,23,24,25,26,27],(some 28)),([29,30],(some 31)),([],none)] (by kernel_rfl) (by kernel_rfl) ?_
  refine z_m ?_;refine z_q ?_;refine z_f ?_;refine z_f ?_;refine z_l ?_;refine z_m ?_;refine z_q ?_;refine z_f ?_;refine z_f ?_;refine z_l ?_;refine Wp_pure rfl rfl rfl rfl rfl (fun _=>A_ff e1 (A_eql rfl rfl)) ?_;refine z_m ?_;refine g_m ?_;refine g_q ?_;refine g_f ?_;refine g_f ?_;refine g_l ?_;refine g_m ?_
  refine Wp_eff [0,1,2,3,4,5,6,7,8,9,10,11,17] (by kernel_rfl) rfl (Stl_nil rfl) rfl nb rfl (W1_off rfl ?_)
  refine z_o ?_;refine z_p ?_;refine z_m ?_;refine g_m ?_;refine g_q ?_;refine g_f ?_;refine g_f ?_;refine g_l ?_;refine g_m ?_
  refine Wp_eff [0,1,2,3,4,5,6,7,8,9,10,11,12,13,14,15,16,17,18,19,20,21,27] (by kernel_rfl) rfl (by refine o_l 16 ?_;refine o_f 15 ?_;refine o_f 14 ?_;refine o_q 13 ?_;refine o_m 12 ?_;exact Stl_nil rfl) rfl nb rfl (W1_off rfl ?_)
  refine z_o ?_;refine z_p ?_
  refine Wp_eff [0,1,2,3,4,5,6,7,8,9,10,11,12,13,14,15,16,17,18,19,20,21,22,23,24,25,26,27,28,29,30] (by kernel_rfl) rfl (by refine o_l 26 ?_;refine o_f 25 ?_;refine o_f 24 ?_;refine o_q 23 ?_;refine o_m 22 ?_;exact Stl_nil rfl) rfl nb rfl (W1_op rfl rfl (A_assign rfl) ?_)
  refine Wp_end (Stl_nil rfl) nb' ?_
  refine zy ?_
  exact Wc_ret (Lv_ret rfl ⟨by rw[decide_eq_false (fun e=>e1 e.1)];rfl,rfl⟩)
 by_cases e2:x.minute<oy
 rotate_left
 ·refine Wc_draw hmix [0,1,3,7,15,0,32,96,224,480,1023,2047,4095,8191,16383,32767,65535,4095,135167,524287,1048575,2097151,4194303,8388607,16777215,33554431,67108863,4194303,138412031,536870911,1073741823,2147483647] [0,1,2,3,4,5,6,7,8,9,10,11,12,13,14,15,16,17] (some 18) [([19,20,21,22,23,24,25,26,27],(some 28)),([29,30],(some 31)),([],none)] (by kernel_rfl) (by kernel_rfl) ?_
  refine z_m ?_;refine z_q ?_;refine z_f ?_;refine z_f ?_;refine z_l ?_;refine z_m ?_;refine z_q ?_;refine z_f ?_;refine z_f ?_;refine z_l ?_;refine Wp_pure rfl rfl rfl rfl rfl (fun _=>A_tt e1 (A_eql rfl rfl)) ?_;refine z_m ?_;refine g_m ?_;refine g_q ?_;refine g_f ?_;refine g_f ?_;refine g_l ?_;refine g_m ?_
  refine Wp_eff [0,1,2,3,4,5,6,7,8,9,10,11,17] (by kernel_rfl) rfl (Stl_nil rfl) rfl nb rfl (W1_callV rfl rfl rfl rfl rfl Bod.h hoY ?_)
  first|refine Wp_off rfl rfl rfl rfl ?_|refine Wp_pure rfl rfl rfl rfl rfl (fun _=>A_ff e2 (A_lss rfl rfl)) ?_
  refine z_p ?_;refine z_m ?_;refine g_m ?_;refine g_q ?_;refine g_f ?_;refine g_f ?_;refine g_l ?_;refine g_m ?_
  refine Wp_eff [0,1,2,3,4,5,6,7,8,9,10,11,12,13,14,15,16,17,18,19,20,21,27] (by kernel_rfl) rfl (by refine o_l 16 ?_;refine o_f 15 ?_;refine o_f 14 ?_;refine o_q 13 ?_;refine o_m 12 ?_;exact Stl_nil rfl) rfl nb rfl (W1_off rfl ?_)
  refine z_o ?_;refine z_p ?_
  refine Wp_eff [0,1,2,3,4,5,6,7,8,9,10,11,12,13,14,15,16,17,18,19,20,21,22,23,24,25,26,27,28,29,30] (by kernel_rfl) rfl (by refine o_l 26 ?_;refine o_f 25 ?_;refine o_f 24 ?_;refine o_q 23 ?_;refine o_m 22 ?_;exact Stl_nil rfl) rfl nb rfl (W1_op rfl rfl (A_assign rfl) ?_)
  refine Wp_end (Stl_nil rfl) nb' ?_
  refine zy ?_
  exact Wc_ret (Lv_ret rfl ⟨by rw[decide_eq_false (fun e=>e2 e.2.1)];rfl,rfl⟩)
 by_cases e3:y.minute<ox
 ·refine Wc_draw hmix [0,1,3,7,15,0,32,96,224,480,1023,2047,4095,8191,16383,32767,65535,4095,135167,524287,1048575,2097151,4194303,8388607,16777215,33554431,67108863,4194303,138412031,536870911,1073741823,2147483647] [0,1,2,3,4,5,6,7,8,9,10,11,12,13,14,15,16,17] (some 18) [([19,20,21,22,23,24,25,26,27],(some 28)),([29,30],(some 31)),([],none)] (by kernel_rfl) (by kernel_rfl) ?_
  refine z_m ?_;refine z_q ?_;refine z_f ?_;refine z_f ?_;refine z_l ?_;refine z_m ?_;refine z_q ?_;refine z_f ?_;refine z_f ?_;refine z_l ?_;refine Wp_pure rfl rfl rfl rfl rfl (fun _=>A_tt e1 (A_eql rfl rfl)) ?_;refine z_m ?_;refine g_m ?_;refine g_q ?_;refine g_f ?_;refine g_f ?_;refine g_l ?_;refine g_m ?_
  refine Wp_eff [0,1,2,3,4,5,6,7,8,9,10,11,17] (by kernel_rfl) rfl (Stl_nil rfl) rfl nb rfl (W1_callV rfl rfl rfl rfl rfl Bod.h hoY ?_)
  first|refine Wp_off rfl rfl rfl rfl ?_|refine Wp_pure rfl rfl rfl rfl rfl (fun _=>A_tt e2 (A_lss rfl rfl)) ?_
  refine z_p ?_;refine z_m ?_;refine g_m ?_;refine g_q ?_;refine g_f ?_;refine g_f ?_;refine g_l ?_;refine g_m ?_
  refine Wp_eff [0,1,2,3,4,5,6,7,8,9,10,11,12,13,14,15,16,17,18,19,20,21,27] (by kernel_rfl) rfl (by refine o_l 16 ?_;refine o_f 15 ?_;refine o_f 14 ?_;refine o_q 13 ?_;refine o_m 12 ?_;exact Stl_nil rfl) rfl nb rfl (W1_callV rfl rfl rfl rfl rfl Bod.h hoX ?_)
  first|refine Wp_off rfl rfl rfl rfl ?_|refine Wp_pure rfl rfl rfl rfl rfl (fun _=>A_tt e3 (A_lss rfl rfl)) ?_
  refine z_p ?_
  refine Wp_eff [0,1,2,3,4,5,6,7,8,9,10,11,12,13,14,15,16,17,18,19,20,21,22,23,24,25,26,27,28,29,30] (by kernel_rfl) rfl (by refine o_l 26 ?_;refine o_f 25 ?_;refine o_f 24 ?_;refine o_q 23 ?_;refine o_m 22 ?_;exact Stl_nil rfl) rfl nb rfl (W1_op rfl rfl (A_assign rfl) ?_)
  refine Wp_end (Stl_nil rfl) nb' ?_
  refine zy ?_
  exact Wc_ret (Lv_ret rfl ⟨by rw[decide_eq_true ⟨e1,e2,e3⟩];rfl,rfl⟩)
 ·refine Wc_draw hmix [0,1,3,7,15,0,32,96,224,480,1023,2047,4095,8191,16383,32767,65535,4095,135167,524287,1048575,2097151,4194303,8388607,16777215,33554431,67108863,4194303,138412031,536870911,1073741823,2147483647] [0,1,2,3,4,5,6,7,8,9,10,11,12,13,14,15,16,17] (some 18) [([19,20,21,22,23,24,25,26,27],(some 28)),([29,30],(some 31)),([],none)] (by kernel_rfl) (by kernel_rfl) ?_
  refine z_m ?_;refine z_q ?_;refine z_f ?_;refine z_f ?_;refine z_l ?_;refine z_m ?_;refine z_q ?_;refine z_f ?_;refine z_f ?_;refine z_l ?_;refine Wp_pure rfl rfl rfl rfl rfl (fun _=>A_tt e1 (A_eql rfl rfl)) ?_;refine z_m ?_;refine g_m ?_;refine g_q ?_;refine g_f ?_;refine g_f ?_;refine g_l ?_;refine g_m ?_
  refine Wp_eff [0,1,2,3,4,5,6,7,8,9,10,11,17] (by kernel_rfl) rfl (Stl_nil rfl) rfl nb rfl (W1_callV rfl rfl rfl rfl rfl Bod.h hoY ?_)
  first|refine Wp_off rfl rfl rfl rfl ?_|refine Wp_pure rfl rfl rfl rfl rfl (fun _=>A_tt e2 (A_lss rfl rfl)) ?_
  refine z_p ?_;refine z_m ?_;refine g_m ?_;refine g_q ?_;refine g_f ?_;refine g_f ?_;refine g_l ?_;refine g_m ?_
  refine Wp_eff [0,1,2,3,4,5,6,7,8,9,10,11,12,13,14,15,16,17,18,19,20,21,27] (by kernel_rfl) rfl (by refine o_l 16 ?_;refine o_f 15 ?_;refine o_f 14 ?_;refine o_q 13 ?_;refine o_m 12 ?_;exact Stl_nil rfl) rfl nb rfl (W1_callV rfl rfl rfl rfl rfl Bod.h hoX ?_)
  first|refine Wp_off rfl rfl rfl rfl ?_|refine Wp_pure rfl rfl rfl rfl rfl (fun _=>A_ff e3 (A_lss rfl rfl)) ?_
  refine z_p ?_
  refine Wp_eff [0,1,2,3,4,5,6,7,8,9,10,11,12,13,14,15,16,17,18,19,20,21,22,23,24,25,26,27,28,29,30] (by kernel_rfl) rfl (by refine o_l 26 ?_;refine o_f 25 ?_;refine o_f 24 ?_;refine o_q 23 ?_;refine o_m 22 ?_;exact Stl_nil rfl) rfl nb rfl (W1_op rfl rfl (A_assign rfl) ?_)
  refine Wp_end (Stl_nil rfl) nb' ?_
  refine zy ?_
  exact Wc_ret (Lv_ret rfl ⟨by rw[decide_eq_false (fun e=>e3 e.2.2)];rfl,rfl⟩)
theorem indexFuncZ_sv {a:Option Addr}{cap:Nat}{l:List (Nat×ScS)}{h:Heap}{g:FuncId}{first capv:List Value}{p:Nat×ScS->Bool}(hI:ListAt ptrZ h a l)(hbd:bodied Tryz.prog g=true)
  (hp:∀h1,Ext h h1->∀x∈l,Sv Tryz.prog g (first++([ptrZ x]++capv)) h1 (RetP fun v h'=>v=.bool (p x)/\Ext h1 h')) (hlen:l.length<9223372036854775808) :
  Sv Tryz.prog 156 [.slice a l.length cap,.func (.func g) ⟨first⟩ ⟨capv⟩] h (RetP fun v h'=>v=i64 (firstI p l)/\Ext h h'):=by
 refine Sv_enter Tryz.func156 rfl (by rw[Tryz.ntmps156];rfl) ?_;show Wc Tryz.prog ⟨156,19,none⟩ _ _ _ _ _
 refine zy ?_
 refine Wc_loop (fun (k:Nat) m ds h'=>ds=[]/\Ext h h'/\k<=l.length/\(∀j (hj:j<l.length),j<k->p l[j]=false)/\AllK m [(0,.slice a l.length cap),(1,.func (.func g) ⟨first⟩ ⟨capv⟩),(7,i64 l.length),(8,i64 k)])
  (fun k=>l.length-k) 0 ?_ ?_
 ·exact⟨rfl,Ext.refl _,Nat.zero_le _,(fun _ _ hj=>by omega),rfl,rfl,rfl,rfl,trivial⟩
 rintro k m ds h' ⟨rfl,hE,hk,hno,hall⟩
 refine Wc.le ?_ (Le.kn hall)
 refine zy ?_
 refine Wo_dec rfl rfl rfl rfl (A_lss rfl rfl) (fun h1=>?_) (fun h1=>?_)
 ·have hk':k<l.length:=by simpa using h1
  obtain⟨b,o,oa,rfl,hc⟩:=hI k hk'
  refine zy ?_
  refine Wo_do rfl rfl rfl rfl (A_ix Und.h Tsz.h rfl rfl) ?_
  refine zy ?_
  refine Wo_callB rfl rfl rfl rfl rfl hbd rfl rfl (hp h' hE _ (List.getElem_mem hk')) (fun hb h2 hE2=>?_) (fun hb h2 hE2=>?_)
  ·refine zy ?_
   refine Wc_ret (Lv_ret rfl ⟨?_,hE.trans hE2⟩)
   have:l.findIdx? p=some k:=by
    rw[List.findIdx?_eq_some_iff_getElem]
    exact⟨hk',hb,fun j hj=>by simp[hno j (by omega) hj]⟩
   simp[firstI,this];rfl
  ·refine zy ?_
   refine⟨k+1,?_,rfl,hE.trans hE2,hk',?_,rfl,rfl,rfl,rfl,trivial⟩
   ·show l.length-(k+1)<l.length-k;omega
   ·intro j hj hlt
    rcases Nat.lt_or_ge j k with g|g
    ·exact hno j hj g
    ·have:j=k:=by omega
     subst this;exact hb
 ·have hk2:k=l.length:=by omega
  subst hk2
  refine zy ?_
  refine Wc_ret (Lv_ret rfl ⟨?_,hE⟩)
  have:l.findIdx? p=none:=by
   rw[List.findIdx?_eq_none_iff]
   intro x hx
   obtain⟨j,hj,rfl⟩:=List.getElem_of_mem hx
   exact hno j hj hj
  simp[firstI,this];rfl
theorem containsFuncZ_sv {a:Option Addr}{cap:Nat}{l:List (Nat×ScS)}{h:Heap}{g:FuncId}{first capv:List Value}{p:Nat×ScS->Bool}(hI:ListAt ptrZ h a l)(hbd:bodied Tryz.prog g=true)
  (hp:∀h1,Ext h h1->∀x∈l,Sv Tryz.prog g (first++([ptrZ x]++capv)) h1 (RetP fun v h'=>v=.bool (p x)/\Ext h1 h')) (hlen:l.length<9223372036854775808) :
  Sv Tryz.prog 104 [.slice a l.length cap,.func (.func g) ⟨first⟩ ⟨capv⟩] h (RetP fun v h'=>v=.bool (l.any p)/\Ext h h'):=by
 refine Sv_enter Tryz.func104 rfl (by rw[Tryz.ntmps104];rfl) ?_;show Wc Tryz.prog ⟨104,9,none⟩ _ _ _ _ _
 refine zy ?_
 refine Wo_callE rfl rfl rfl rfl rfl Bod.h rfl rfl (indexFuncZ_sv hI hbd hp hlen) fun h1 hE1=>?_
 refine zy ?_
 refine Wo_dec rfl rfl rfl rfl (A_geq rfl rfl) (fun hb=>?_) (fun hb=>?_)
 ·refine zy ?_
  exact Wc_ret (Lv_ret rfl ⟨by rw[<-firstI_any,decide_eq_true hb];rfl,hE1⟩)
 ·refine zy ?_
  exact Wc_ret (Lv_ret rfl ⟨by rw[<-firstI_any,decide_eq_false hb];rfl,hE1⟩)
theorem find_at {α:Type}{l:List α}{p:α->Bool}{k:Nat}(hk:k<l.length)(hno:∀j (hj:j<l.length),j<k->p l[j]=false)(hp:p l[k]=true):l.find? p=some l[k]:=by
 rw[List.find?_eq_some_iff_getElem]
 exact⟨hp,k,hk,rfl,fun j hj=>by simp[hno j (by omega) hj]⟩
theorem find_no {α:Type}{l:List α}{p:α->Bool}(hno:∀j (hj:j<l.length),p l[j]=false):l.find? p=none:=by
 rw[List.find?_eq_none]
 intro x hx
 obtain⟨j,hj,rfl⟩:=List.getElem_of_mem hx
 simp[hno j hj]
def allErr (t:ScT)(l:List ScS):Int:=if 40<l.length then 3 else match l.find? fun s=>decide (shownErr t s≠0) with|some s=>shownErr t s|none=>0
theorem listed_ok {t:ScT}{l:List ScS}(h:errSc t=0):listedS t l=allErr t l:=by unfold listedS allErr;rw[if_neg (fun e=>e h)];rfl
theorem listed_bad {t:ScT}{l:List ScS}(h:¬errSc t=0):listedS t l=errSc t:=by unfold listedS;rw[if_pos h]
theorem allErr_long {t:ScT}{l:List ScS}(h:40<l.length):allErr t l=3:=by unfold allErr;rw[if_pos h]
theorem allErr_at {t:ScT}{l:List ScS}(h:¬40<l.length){k:Nat}(hk:k<l.length)(hno:∀j (hj:j<l.length),j<k->shownErr t l[j]=0)(hp:shownErr t l[k]≠0):allErr t l=shownErr t l[k]:=by
 unfold allErr
 rw[if_neg h,find_at (p:=fun s=>decide (shownErr t s≠0)) hk (fun j hj hlt=>by simp[hno j hj hlt]) (decide_eq_true hp)]
theorem allErr_no {t:ScT}{l:List ScS}(h:¬40<l.length)(hno:∀j (hj:j<l.length),shownErr t l[j]=0):allErr t l=0:=by
 unfold allErr
 rw[if_neg h,find_no (p:=fun s=>decide (shownErr t s≠0)) fun j hj=>by simp[hno j hj]]
theorem allErr_ok {t:ScT}{l:List ScS}(h:allErr t l=0):l.length<=40/\∀s∈l,shownErr t s=0:=by
 unfold allErr at h
 split at h
 ·cases h
 rename_i h40
 refine⟨by omega,fun s hs=>?_⟩
 split at h
 ·rename_i s' hf
  have:=List.find?_some (p:=fun s=>decide (shownErr t s≠0)) hf
  exact absurd h (of_decide_eq_true this)
 ·rename_i hf
  have:=List.find?_eq_none.1 hf s hs
  simpa using this
def AllR (t:ScT)(l:List ScS)(bH:Nat)(h:Heap)(v:Value)(h':Heap):Prop:=Ext h h'/\((¬allErr t l=0/\v=.tuple ⟨[.slice none 0 0,i64 (allErr t l)]⟩)\/(allErr t l=0/\∃va zs,v=.tuple ⟨[va,i64 0]⟩/\zs.map Prod.snd=l/\Own h h' [slI h va 152 1 (zs.map ptrZ) zs.length,shI bH t zs]/\(zs.map Prod.fst).Nodup))
set_option maxHeartbeats 1000000 in
theorem all_sv {bH:Nat}{t:ScT}{l:List ScS}{al:Option Addr}{cl:Nat}{h:Heap}(hH:HouseAt h bH t)(hO:ScOk t)(hl:RowsAt 6 ScSR h al l)(hlF:∀s∈l,s.Fit)(hL:Len l):Sv Tryz.prog 103 [.pointer (some ⟨bH,0,none⟩),.slice al l.length cl] h (RetP (AllR t l bH h)):=by
 refine Sv_wf fun hw=>?_
 refine Sv_enter Tryz.func103 rfl (by rw[Tryz.ntmps103];rfl) ?_;show Wc Tryz.prog ⟨103,34,none⟩ _ _ _ _ _
 refine zy ?_
 refine Wo_dec rfl rfl rfl rfl (A_gtr rfl rfl) (fun h1=>?_) (fun h1=>?_)
 ·refine zy ?_
  have e:=allErr_long (t:=t) (show 40<l.length by omega)
  exact Wc_ret (Lv_ret rfl ⟨Ext.refl _,.inl ⟨by rw[e];decide,by rw[e];rfl⟩⟩)
 have hl40:¬40<l.length:=by omega
 refine zy ?_
 refine Wc_loop (fun (s:Nat×Value×List (Nat×ScS)) m ds h'=>ds=[]/\s.1<=l.length/\Ext h h'/\Own h h' [slI h s.2.1 152 1 (s.2.2.map ptrZ) s.2.2.length,shI bH t s.2.2]/\s.2.2.map Prod.snd=l.take s.1/\(s.2.2.map Prod.fst).Nodup/\(∀j (hj:j<l.length),j<s.1->shownErr t l[j]=0) ∧
   AllK m [(0,.pointer (some ⟨bH,0,none⟩)),(4,s.2.1),(13,.slice al l.length cl),(14,i64 l.length),(15,i64 s.1)]) (fun s=>l.length-s.1) (0,.slice none 0 0,[]) ?_ ?_
 ·exact⟨rfl,Nat.zero_le _,Ext.refl _,((Own.nil h h).new hw (Nat.le_refl _) (Ext.refl _) (y:=shI bH t []) (fun _ hz=>nomatch hz) (fun _ hc=>nomatch hc)).nilSl 152 1,rfl,.nil,(fun j _ hj=>absurd hj (Nat.not_lt_zero _)),rfl,rfl,rfl,rfl,rfl,trivial⟩
 rintro⟨k,v,zs⟩ m ds h2 ⟨rfl,hk,hE2,hO2,hzs,hnd,hno,hall⟩
 simp only at hk hO2 hzs hnd hno hall
 refine Wc_wf fun hw2=>?_
 have hzl:zs.length=k:=by
  have:=congrArg List.length hzs
  rw[List.length_map,List.length_take] at this
  omega
 refine Wc.le ?_ (Le.kn hall)
 refine zy ?_
 refine Wo_dec rfl rfl rfl rfl (A_lss rfl rfl) (fun h3=>?_) (fun h3=>?_)
 ·have hk':k<l.length:=by simpa using h3
  obtain⟨b,o,oa,rfl,row,hrow,hr⟩:=hl k hk'
  have hFx:=hlF _ (List.getElem_mem hk')
  have htk:l.take (k+1)=l.take k++[l[k]]:=by rw[List.take_add_one,List.getElem?_eq_getElem hk'];rfl
  have herr:=allErr_at hl40 hk' hno
  have hnx:shownErr t l[k]=0->∀j (hj:j<l.length),j<k+1->shownErr t l[j]=0:=fun e j hj hlt=>by
   rcases Nat.lt_or_ge j k with g|g
   ·exact hno j hj g
   ·have:j=k:=by omega
    subst this;exact e
  generalize hmk:l[k]=x at *
  obtain rfl:=hr
  have hrow2:=hE2.row hrow
  refine zy ?_
  refine Wo_do rfl rfl rfl rfl (A_ix Und.h Tsz.h rfl rfl) ?_
  refine zy ?_
  refine Wo_allocStore rfl rfl Zr.h Tsz.h rfl (fun _=>rfl) rfl rfl rfl fun h4 hE4 hW4 hg4 hn4=>?_
  have hO4:=hO2.ext hE4
  refine zy ?_
  refine Wo_callr rfl rfl rfl rfl rfl Bod.h rfl rfl (enter_sv (hH.ext (hE2.trans hE4)) hO hFx rfl) ?_
  rintro v5 h5 ⟨hE5,⟨hs0,rfl⟩|⟨hs0,bS,rfl,hS,hbS⟩⟩
  ·refine zy ?_
   refine Wo_dec rfl rfl rfl rfl (A_neq rfl rfl) (fun h6=>?_) (fun h6=>?_)
   ·refine zy ?_
    exact Wc_ret (Lv_ret rfl ⟨hE2.trans (hE4.trans hE5),.inl ⟨by rw[herr hs0];exact hs0,by rw[herr hs0];rfl⟩⟩)
   ·exact absurd (Decidable.not_not.1 h6) hs0
  ·refine zy ?_
   refine Wo_dec rfl rfl rfl rfl (A_neq rfl rfl) (fun h6=>?_) (fun h6=>?_)
   ·exact absurd rfl h6
   refine zy ?_
   have hE24:=hE2.trans hE4
   have hnew:bS ∉ zs.map Prod.fst:=fun hm=>by
    obtain⟨z,hz,rfl⟩:=List.mem_map.1 hm
    have h7:ShowsP h4 bH t zs:=hO4.p2
    have:=hW4 _ _ (h7 z hz)
    omega
   have hO5:=hO4.new hW4 hE24.2.1 hE5 (y:=shI bH t [(bS,x)]) (fun z hz=>by rw[List.mem_singleton.1 hz];exact hS) (fun c hc=>by rw[List.mem_singleton.1 (show c∈[bS] from hc)];exact hbS)
   have hO6:=(hO5.up3.merge (z:=shI bH t (zs++[(bS,x)])) (fun a b z hz=>(List.mem_append.1 hz).elim (a z) (b z)) (fun c hc=>by
    have:c∈zs.map Prod.fst++[bS]:=by
     have hc':c∈(zs++[(bS,x)]).map Prod.fst:=hc
     rw[List.map_append] at hc';exact hc'
    exact (List.mem_append.1 this).elim .inl .inr)).up2
   clear hO5 hO4 hO2
   refine Wo_bs rfl rfl Und.h Tsz.h Zr.h rfl rfl rfl rfl rfl fun h7 hE7 hW7 hg7 hn7=>?_
   have hml:(zs++[(bS,x)]).length=zs.length+1:=by simp
   have hmm:(zs++[(bS,x)]).map ptrZ=zs.map ptrZ++[.pointer (some ⟨bS,0,none⟩)]:=by rw[List.map_append];rfl
   refine Wo_appendO (k:=1) (l:=[.pointer (some ⟨bS,0,none⟩)]) hw (hE24.trans (hE5.trans hE7)) rfl rfl rfl rfl rfl Und.h inferInstance rfl rfl (hO6.ext hE7) (asrc_row Und.h (by intro k;simp) (rowAt_cells hg7 rfl)) rfl rfl (by omega) (by omega) fun v8 h8 hW8 hO8 hE8=>?_
   rw[<-hml,<-hmm] at hO8
   refine zy ?_
   refine⟨(k+1,v8,zs++[(bS,x)]),?_,rfl,hk',hE8,hO8,?_,?_,hnx hs0,rfl,rfl,rfl,rfl,rfl,trivial⟩
   ·show l.length-(k+1)<l.length-k;omega
   ·rw[List.map_append,hzs,htk];rfl
   ·show ((zs++[(bS,x)]).map Prod.fst).Nodup
    rw[List.map_append,List.nodup_append]
    exact⟨hnd,by simp,fun a ha b hb e=>hnew (by rw[<-List.mem_singleton.1 (show b∈[bS] from hb),<-e];exact ha)⟩
 have hk2:k=l.length:=by omega
 subst hk2
 have e0:=allErr_no hl40 fun j hj=>hno j hj hj
 rw[List.take_length] at hzs
 refine zy ?_
 exact Wc_ret (Lv_ret rfl ⟨hE2,.inr ⟨e0,v,zs,rfl,hzs,hO2,hnd⟩⟩)
def PlayR (t:ScT)(l:List ScS)(h:Heap)(v:Value)(h':Heap):Prop:=Ext h h'/\((¬listedS t l=0/\v=.tuple ⟨[.slice none 0 0,.slice none 0 0,i64 (listedS t l)]⟩)\/(listedS t l=0/\∃va vb,v=.tuple ⟨[va,vb,i64 0]⟩/\FreshSl h h' va 42 6 ((playS t l).1.flatMap shVs) (playS t l).1.length/\FreshSl h h' vb 32 1 ((playS t l).2.map i64) (playS t l).2.length))
theorem play_lens (t:ScT)(l:List ScS)(k:Nat):(playS t (l.take k)).1.length<=l.length/\(playS t (l.take k)).2.length<=l.length:=by
 obtain⟨h1,h2,-⟩:=play_len t (l.take k)
 rw[List.length_take] at h1 h2
 omega
set_option maxHeartbeats 4000000 in
theorem scPlay_sv {tc:List Value}{t:ScT}{l:List ScS}{al:Option Addr}{cl:Nat}{h:Heap}(ht:ScTAt h tc t)(hT:t.Fit)(hl:RowsAt 6 ScSR h al l)(hlF:∀s∈l,s.Fit)(hL:Len l):Sv Tryz.prog 38 [.agg ⟨tc⟩,.slice al l.length cl] h (RetP (PlayR t l h)):=by
 have ht0:=ht
 obtain⟨xl,cxl,at',ct,a1,c1,a2,c2,a3,c3,a4,c4,a5,c5,a6,c6,rfl,-⟩:=ht
 refine Sv_wf fun hw=>?_
 refine Sv_enter Tryz.func38 rfl (by rw[Tryz.ntmps38];rfl) ?_;show Wc Tryz.prog ⟨38,66,none⟩ _ _ _ _ _
 refine zy ?_
 refine Wo_box rfl rfl rfl fun h1 hE1 hW1 hg1 hn1=>?_
 generalize h.nx=b1 at *
 refine zy ?_
 refine Wo_callr rfl rfl rfl rfl rfl Bod.h rfl rfl (open_sv (ht0.ext hE1) hT) ?_
 rintro v h2 ⟨hE2,⟨he,rfl⟩|⟨he,bH,rfl,hH⟩⟩
 ·have e:=listed_bad (l:=l) he
  refine zy ?_
  refine Wo_dec rfl rfl rfl rfl (A_neq rfl rfl) (fun h3=>?_) (fun h3=>?_)
  ·refine zy ?_
   exact Wc_ret (Lv_ret rfl ⟨hE1.trans hE2,.inl ⟨by rw[e];exact he,by rw[e];rfl⟩⟩)
  ·exact absurd (Decidable.not_not.1 h3) he
 have hO:=sc_ok he
 have eL:=listed_ok (l:=l) he
 replace hE2:=hE1.trans hE2
 clear hg1 hn1 hW1 hE1
 refine zy ?_
 refine Wo_dec rfl rfl rfl rfl (A_neq rfl rfl) (fun h3=>?_) (fun h3=>?_)
 ·exact absurd rfl h3
 clear h3
 refine zy ?_
 refine Wo_callr rfl rfl rfl rfl rfl Bod.h rfl rfl (all_sv hH hO (RowsAt.ext (R:=ScSR) (fun x _=>x) hl hE2) hlF hL) ?_
 rintro v h3 ⟨hE3,⟨he2,rfl⟩|⟨he2,va,zs,rfl,hzs,hO3,hnd⟩⟩
 ·refine zy ?_
  refine Wo_dec rfl rfl rfl rfl (A_neq rfl rfl) (fun h4=>?_) (fun h4=>?_)
  ·refine zy ?_
   exact Wc_ret (Lv_ret rfl ⟨hE2.trans hE3,.inl ⟨by rw[eL];exact he2,by rw[eL];rfl⟩⟩)
  ·exact absurd (Decidable.not_not.1 h4) he2
 obtain⟨hl40,hsh⟩:=allErr_ok he2
 replace hH:=hH.ext hE3
 have hE:=hE2.trans hE3
 have hSP:ShowsP h3 bH t zs:=hO3.p2
 obtain⟨aZ,rfl,-,hZ⟩:=FreshSl.list (enc:=ptrZ) (show FreshSl h2 h3 va 152 1 _ _ from hO3.p1)
 clear hO3
 refine zy ?_
 refine Wo_dec rfl rfl rfl rfl (A_neq rfl rfl) (fun h4=>?_) (fun h4=>?_)
 ·exact absurd rfl h4
 clear h4
 refine Wo_wf fun hw3=>?_
 have hzl:zs.length=l.length:=by rw[<-hzs,List.length_map]
 refine zy ?_
 refine Wc_loop (fun (s:Nat×Value×Value×Value×List (Nat×ScS)) m ds h'=>ds=[]/\s.1<=zs.length/\Ext h3 h'/\Own h3 h' [slI h3 s.2.1 152 1 (s.2.2.2.2.map ptrZ) s.2.2.2.2.length,slI h3 s.2.2.1 42 6 ((playS t (l.take s.1)).1.flatMap shVs) (playS t (l.take s.1)).1.length,slI h3 s.2.2.2.1 32 1 ((playS t (l.take s.1)).2.map i64) (playS t (l.take s.1)).2.length]/\s.2.2.2.2.map Prod.snd=(playS t (l.take s.1)).1/\(∀z∈s.2.2.2.2,z∈zs) ∧
   AllK m [(4,s.2.2.1),(5,s.2.2.2.1),(9,s.2.1),(30,.slice aZ zs.length zs.length),(31,i64 zs.length),(32,i64 s.1)]) (fun s=>zs.length-s.1) (0,.slice none 0 0,.slice none 0 0,.slice none 0 0,[]) ?_ ?_
 ·exact⟨rfl,Nat.zero_le _,Ext.refl _,(((Own.nil h3 h3).nilSl 32 1).nilSl 42 6).nilSl 152 1,rfl,(fun _ hz=>nomatch hz),rfl,rfl,rfl,rfl,rfl,rfl,trivial⟩
 rintro⟨k,von,vk,vw,on⟩ m ds h4 ⟨rfl,hk,hE4,hO4,hon,hsub,hall⟩
 simp only at hk hO4 hon hsub hall
 refine Wc_wf fun hw4=>?_
 obtain⟨p1,p2⟩:=play_lens t l k
 have hol:on.length=(playS t (l.take k)).1.length:=by rw[<-hon,List.length_map]
 refine Wc.le ?_ (Le.kn hall)
 refine zy ?_
 refine Wo_dec rfl rfl rfl rfl (A_lss rfl rfl) (fun h5=>?_) (fun h5=>?_)
 rotate_left
 ·have hk2:k=zs.length:=by omega
  subst hk2
  rw[hzl,List.take_length] at hO4
  have q1:=hO4.p2
  have q2:=hO4.p3
  have hb3:=hE.2.1
  refine zy ?_
  exact Wc_ret (Lv_ret rfl ⟨hE.trans hE4,.inr ⟨by rw[eL];exact he2,vk,vw,rfl,FreshSl.base q1 hb3,FreshSl.base q2 hb3⟩⟩)
 have hk':k<zs.length:=by simpa using h5
 have hkl:k<l.length:=by omega
 obtain⟨b,o,oa,rfl,hc⟩:=hZ k hk'
 have hzm:=List.getElem_mem hk'
 have hzs0:∀z∈zs,shownErr t z.2=0:=fun z hz=>hsh _ (by rw[<-hzs];exact List.mem_map_of_mem hz)
 have hx0:shownErr t zs[k].2=0:=hsh _ (by rw[<-hzs];exact List.mem_map_of_mem hzm)
 have hsx:l[k]=zs[k].2:=by subst hzs;rw[List.getElem_map]
 have hstep:playS t (l.take (k+1))=(if busyS t (playS t (l.take k)).1 zs[k].2=0 then (playS t (l.take k)).1++[zs[k].2] else (playS t (l.take k)).1,(playS t (l.take k)).2++[busyS t (playS t (l.take k)).1 zs[k].2]):=by
  rw[List.take_add_one,List.getElem?_eq_getElem hkl,hsx]
  exact playS_snoc t (l.take k) zs[k].2
 have hbusy:busyS t (playS t (l.take k)).1 zs[k].2=if whyS t zs[k].2≠0 then whyS t zs[k].2 else if (on.any fun z=>distB t zs[k].2 z.2)=true then 217 else 0:=by
  have hd:(on.any ((fun q=>distB t q zs[k].2) ∘ Prod.snd))=on.any fun z=>distB t zs[k].2 z.2:=by
   congr 1
   funext z
   exact distB_comm t z.2 zs[k].2
  unfold busyS
  rw[<-hon,List.any_map,hd]
 replace hc:=hE4.cell hc
 have hSx:=hSP _ hzm
 generalize zs[k]=x at *
 generalize (playS t (l.take k)).1=K at *
 generalize (playS t (l.take k)).2=W at *
 refine zy ?_
 refine Wo_do rfl rfl rfl rfl (A_ix Und.h Tsz.h rfl rfl) ?_
 refine zy ?_
 refine Wo_callE rfl rfl rfl rfl rfl Bod.h rfl rfl (why_sv (hSx.ext hE4) (hH.ext hE4) hO hx0) fun h6 hE6=>?_
 have hE46:=hE4.trans hE6
 replace hO4:=hO4.ext hE6
 have hwl:∀e:Int,(W++[e]).length=W.length+1:=fun e=>by simp
 have hwm:∀e:Int,(W++[e]).map i64=W.map i64++[i64 e]:=fun e=>by simp
 by_cases e0:whyS t x.2=0
 rotate_left
 ·rw[if_pos e0] at hbusy
  rw[hbusy,if_neg e0] at hstep
  generalize whyS t x.2=e at *
  refine zy ?_
  refine Wo_do rfl rfl rfl rfl (A_ff e0 (A_eql rfl rfl)) ?_
  refine zy ?_
  refine Wo_do rfl rfl rfl rfl (A_ff e0 (A_eql rfl rfl)) ?_
  refine zy ?_
  refine Wo_bs rfl rfl Und.h Tsz.h Zr.h rfl rfl rfl rfl rfl fun h7 hE7 hW7 hg7 hn7=>?_
  refine Wo_appendO (k:=1) (l:=[i64 e]) hw3 (hE46.trans hE7) rfl rfl rfl rfl rfl Und.h inferInstance rfl rfl ((hO4.ext hE7).pick 2 rfl) (asrc_row Und.h (by intro k;simp) (rowAt_cells hg7 rfl)) rfl rfl (by omega) (by omega) fun v8 h8 hW8 hO8 hE8=>?_
  rw[<-hwl e,<-hwm e] at hO8
  have hO9:=hO8.unpick 2 (Nat.le_of_ble_eq_true rfl)
  refine zy ?_
  refine⟨(k+1,von,vk,v8,on),?_,rfl,hk',hE8,?_,?_,hsub,rfl,rfl,rfl,rfl,rfl,rfl,trivial⟩
  ·show zs.length-(k+1)<zs.length-k;omega
  ·simp only[hstep];exact hO9
  ·simp only[hstep];exact hon
 rw[if_neg (fun e=>e e0)] at hbusy
 obtain⟨aO,rfl,-,hOn⟩:=FreshSl.list (enc:=ptrZ) (show FreshSl h3 h6 von 152 1 _ _ from hO4.p1)
 refine zy ?_
 refine Wo_do rfl rfl rfl rfl (A_tt e0 (A_eql rfl rfl)) ?_
 refine zy ?_
 refine Wo_callB rfl rfl rfl rfl rfl Bod.h rfl rfl (containsFuncZ_sv (p:=fun z=>distB t x.2 z.2) hOn Bod.h (fun h7 hE7 z hz=>Sv.grows (disturbs_sv (hSx.ext (hE46.trans hE7)) ((hSP z (hsub z hz)).ext (hE46.trans hE7)) hO hx0 (hzs0 z (hsub z hz)))) (by omega)) (fun hd h7 hE7=>?_) (fun hd h7 hE7=>?_)
 ·rw[if_pos hd] at hbusy
  rw[hbusy,if_neg (by decide)] at hstep
  replace hO4:=hO4.ext hE7
  replace hE46:=hE46.trans hE7
  refine zy ?_
  refine Wo_do rfl rfl rfl rfl (A_ff (by decide) (A_eql rfl rfl)) ?_
  refine zy ?_
  refine Wo_bs rfl rfl Und.h Tsz.h Zr.h rfl rfl rfl rfl rfl fun h8 hE8 hW8 hg8 hn8=>?_
  refine Wo_appendO (k:=1) (l:=[i64 217]) hw3 (hE46.trans hE8) rfl rfl rfl rfl rfl Und.h inferInstance rfl rfl ((hO4.ext hE8).pick 2 rfl) (asrc_row Und.h (by intro k;simp) (rowAt_cells hg8 rfl)) rfl rfl (by omega) (by omega) fun v9 h9 hW9 hO9 hE9=>?_
  rw[<-hwl 217,<-hwm 217] at hO9
  have hOa:=hO9.unpick 2 (Nat.le_of_ble_eq_true rfl)
  refine zy ?_
  refine⟨(k+1,.slice aO on.length on.length,vk,v9,on),?_,rfl,hk',hE9,?_,?_,hsub,rfl,rfl,rfl,rfl,rfl,rfl,trivial⟩
  ·show zs.length-(k+1)<zs.length-k;omega
  ·simp only[hstep];exact hOa
  ·simp only[hstep];exact hon
 ·rw[if_neg (by rw[hd];simp)] at hbusy
  rw[e0]
  rw[hbusy,if_pos rfl] at hstep
  replace hO4:=hO4.ext hE7
  replace hE46:=hE46.trans hE7
  have hkl':(K++[x.2]).length=K.length+1:=by simp
  have hkm:(K++[x.2]).flatMap shVs=K.flatMap shVs++shVs x.2:=by simp[List.flatMap_append]
  have hol':(on++[x]).length=on.length+1:=by simp
  have hom:(on++[x]).map ptrZ=on.map ptrZ++[ptrZ x]:=by simp
  have kS:=hSx.ext hE46
  have kS':rowAt h7 x.1 0 6=some (shVs x.2):=rowAt_cells kS rfl
  refine zy ?_
  refine Wo_do rfl rfl rfl rfl (A_tt rfl (A_eql rfl rfl)) ?_
  refine Wo_wf fun hw7=>?_
  have hEa:Ext h7 (rsv (Heap.add h7 (.cells [ptrZ x] 152 false))):=(Ext.add hw7 _).trans (Ext.rsv _)
  have hne:=hO4.ne hw7 (Nat.le_succ h7.nx)
  have hn7:=hE46.2.1
  have kSa:=hEa.get kS
  refine zy ?_
  refine Wc_draw hmix [0,0,2,7,0,0,32,96,224,480,1023,2047,4095] [0,1,2,4,5,6,7,8,9] (some 3) [([],(some 10)),([],(some 11)),([],(some 12)),([],none)] (by kernel_rfl) (by kernel_rfl) ?_
  refine z_m ?_;refine z_m ?_
  refine Wp_new (nk:=.sl _ _) rfl rfl rfl rfl rfl (fun _ _ hs=>N_bs hs Und.h Tsz.h Zr.h rfl rfl rfl rfl rfl) ?_
  refine z_m ?_;refine z_m ?_;refine z_q ?_;refine z_f ?_;refine z_r ?_
  refine Wp_new (nk:=.sl _ _) rfl rfl rfl rfl rfl (fun _ _ hs=>N_bs hs Und.h Tsz.h Zr.h rfl rfl rfl rfl rfl) ?_
  refine Wp_eff (h1:=(rsv (Heap.add h7 _))) [0,1,2] (by kernel_rfl) rfl (Stl_nil rfl) rfl rfl rfl (W1_wfK (W1_appendR (n1:=h7.nx+1) (by':=8) (sz:=1) (k:=1) (n:=on.length) (l:=[ptrZ x]) rfl hw3 (hE46.trans hEa) rfl rfl rfl rfl Und.h inferInstance rfl rfl (hO4.ext hEa) ((FreshSl.lit (h0:=h3) (n:=1) (sz:=1) ((Ext.rsv _).get Heap.get_add_same) rfl hn7).src (dd:=.slice 152) Und.h (by intro k;simp)) rfl rfl (by omega) (by omega) hne (Nat.lt_succ_self _) (fun v12 h12 hO13 hE12 hne12 hn12 hw12=>?_)))
  have hU12:=Upd.mk' h12 (h7.nx+1) (.cells (shVs x.2) 42 false)
  have hO13':=hO13.other (.cells (shVs x.2) 42 false) hne12
  have hE12':=hU12.ext hE12 hw3 (Nat.le_succ_of_le hn7)
  have kS12:h12.get x.1=_:=hE12.get hSx
  rw[<-hol',<-hom] at hO13'
  refine Wp_eff (h1:=(h12.set (h7.nx+1) (.cells (shVs x.2) 42 false))) [0,1,2,3,4,5,6,7,8,9] (by kernel_rfl) rfl (by refine Stl_new (i:=9) (nk:=.sl _ _) rfl rfl rfl rfl rfl (fun _ _ hs=>N_bs hs Und.h Tsz.h Zr.h rfl rfl rfl rfl rfl) rfl ?_;refine t_r 8 ?_;refine t_f 7 ?_;refine t_q 6 ?_;refine t_m 5 ?_;refine t_m 4 ?_;exact Stl_nil rfl) rfl rfl rfl (W1_wfK (W1_appendO (by':=48) (sz:=6) (k:=1) (n:=K.length) (l:=shVs x.2) rfl hw3 hE12' rfl rfl rfl rfl Und.h inferInstance rfl rfl (hO13'.pick 1 rfl) ((FreshSl.lit (h0:=h3) (n:=1) (sz:=6) hU12.at' rfl (Nat.le_succ_of_le hn7)).src (dd:=.slice 42) Und.h (by intro k;simp)) rfl rfl (by omega) (by omega) (fun v14 h14 hO15 hE14 hw14=>?_)))
  rw[<-hkl',<-hkm] at hO15
  have hO16:=hO15.unpick 1 (Nat.le_of_ble_eq_true rfl)
  refine Wp_eff (h1:=h14) [0,1,2,3,4,5,6,7,8,9,10] (by kernel_rfl) rfl (Stl_nil rfl) rfl rfl rfl (W1_op rfl rfl (A_assign rfl) ?_)
  refine Wp_eff (h1:=h14) [0,1,2,3,4,5,6,7,8,9,10,11] (by kernel_rfl) rfl (Stl_nil rfl) rfl rfl rfl (W1_op rfl rfl (A_assign rfl) ?_)
  refine Wp_end (h1:=h14) (Stl_nil rfl) rfl ?_
  refine zy ?_
  refine Wo_bs rfl rfl Und.h Tsz.h Zr.h rfl rfl rfl rfl rfl fun h17 hE17 hW17 hg17 hn17=>?_
  refine Wo_appendO (k:=1) (l:=[i64 0]) hw3 (hE14.trans hE17) rfl rfl rfl rfl rfl Und.h inferInstance rfl rfl ((hO16.ext hE17).pick 2 rfl) (asrc_row Und.h (by intro k;simp) (rowAt_cells hg17 rfl)) rfl rfl (by omega) (by omega) fun v18 h18 hW18 hO18 hE18=>?_
  rw[<-hwl 0,<-hwm 0] at hO18
  have hO19:=hO18.unpick 2 (Nat.le_of_ble_eq_true rfl)
  refine zy ?_
  refine⟨(k+1,v12,v14,v18,on++[x]),?_,rfl,hk',hE18,?_,?_,?_,rfl,rfl,rfl,rfl,rfl,rfl,trivial⟩
  ·show zs.length-(k+1)<zs.length-k;omega
  ·simp only[hstep];exact hO19
  ·simp only[hstep,List.map_append,hon];rfl
  ·intro z hz
   rcases List.mem_append.1 hz with g|g
   ·exact hsub z g
   ·rw[List.mem_singleton.1 g];exact hzm
end Go.Dw
/- H9: contracts: slices.Index over pointers to shows. -/
namespace Go.Dw
open Go Go.Dx Go.Proofs
set_option maxRecDepth 100000
theorem indexZ_sv {a:Option Addr}{cap k:Nat}{l:List (Nat×ScS)}{h:Heap}(hI:ListAt ptrZ h a l)(hc:∀x∈l,∃vs el op,h.get x.1=some (.cells vs el op))(hk:k<l.length)(hf:∀j (hj:j<k),(l[j]'(by omega)).1≠l[k].1)(hlen:l.length<9223372036854775808) :
  Sv Tryz.prog 112 [.slice a l.length cap,ptrZ l[k]] h (RetP fun v h'=>v=i64 (k:Nat)/\h'=h):=by
 refine Sv_enter Tryz.func112 rfl (by rw[Tryz.ntmps112];rfl) ?_;show Wc Tryz.prog ⟨112,19,none⟩ _ _ _ _ _
 refine zy ?_
 refine Wc_loop (fun (j:Nat) m ds h'=>ds=[]/\h=h'/\j<=k/\AllK m [(0,.slice a l.length cap),(1,ptrZ l[k]),(7,i64 l.length),(8,i64 (j:Nat))]) (fun j=>k-j) 0 ?_ ?_
 ·exact⟨rfl,rfl,Nat.zero_le _,rfl,rfl,rfl,rfl,trivial⟩
 rintro j m ds h' ⟨rfl,rfl,hj,hall⟩
 refine Wc.le ?_ (Le.kn hall)
 clear hall
 have hjl:j<l.length:=by omega
 obtain⟨b,o,oa,rfl,hcell⟩:=hI j hjl
 refine zy ?_
 refine Wo_do rfl rfl rfl rfl (A_tt (by omega) (A_lss rfl rfl)) ?_
 refine zy ?_
 refine Wo_do rfl rfl rfl rfl (A_ix Und.h Tsz.h rfl rfl) ?_
 refine zy ?_
 by_cases hjk:j<k
 ·obtain⟨v1,e1,p1,g1⟩:=hc _ (List.getElem_mem hk)
  obtain⟨v2,e2,p2,g2⟩:=hc _ (List.getElem_mem hjl)
  refine Wo_do rfl rfl rfl rfl (A_binPtr rfl rfl (by kernel_rfl) (ptr_other (j:=(Tryz.prog.info? 156).getD default) Und.h (by kernel_rfl) (by kernel_rfl) (Ne.symm (hf j hjk)) g1 g2) (by intro n e;cases e)) ?_
  refine zy ?_
  exact⟨j+1,(by show k-(j+1)<k-j;omega),rfl,rfl,hjk,rfl,rfl,rfl,rfl,trivial⟩
 ·have:j=k:=by omega
  subst this
  refine Wo_do rfl rfl rfl rfl (A_binPtr rfl rfl (by kernel_rfl) (ptr_sameE (j:=(Tryz.prog.info? 156).getD default) Und.h (by kernel_rfl)) (by intro n e;cases e)) ?_
  refine zy ?_
  exact Wc_ret (Lv_ret rfl ⟨rfl,rfl⟩)
end Go.Dw
/- H7: contracts: shows in a list, package telecineref11: over, Disturb, listed, Play, Shows. -/
namespace Go.Dw
open Go Go.Dx Go.Proofs
set_option maxRecDepth 100000
end Go.Dw
/- H8: contracts: two lists of shows compared; parts of lists that may be empty. -/
namespace Go.Dw
open Go Go.Dx Go.Proofs
set_option maxRecDepth 100000
theorem ScS.ext' {a b:ScS}(h1:a.venue=b.venue)(h2:a.print=b.print)(h3:a.pack=b.pack)(h4:a.minute=b.minute)(h5:a.speed=b.speed)(h6:a.worth=b.worth):a=b:=by
 cases a;cases b;simp_all
instance:DecidableEq ScS:=fun a b=>decidable_of_iff (a.venue=b.venue/\a.print=b.print/\a.pack=b.pack/\a.minute=b.minute/\a.speed=b.speed/\a.worth=b.worth) ⟨fun ⟨h1,h2,h3,h4,h5,h6⟩=>ScS.ext' h1 h2 h3 h4 h5 h6,fun h=>by subst h;simp⟩
theorem part_int {cs:Array Value}{o:Nat}{v:Value}{W:World}(h:cs[o]?=some v):(part 3 cs o).run Tryz.prog W=.ok v W:=by
 unfold part
 simp only[Sem.run_bind,Tryz.isAgg3,Result.andThen_ok,Bool.false_eq_true,if_false,h,Sem.run_pure]
theorem eqf_int {d : Nat} {xs ys : Array Value} {f : Field} {fs : List Field} {a b : Int} {W : World} (hn : f.name ≠ "_") (ht : f.type = 3) (ha : xs[f.offset]? = some (i64 a)) (hb : ys[f.offset]? = some (i64 b)) :
  (Op.eqFields (d+1) xs ys (f::fs)).run Tryz.prog W=if a=b then (Op.eqFields (d+1) xs ys fs).run Tryz.prog W else .ok false W:=by
 rw[Op.eqFields,if_pos hn,ht]
 simp only[Sem.run_bind,part_int ha,part_int hb,Result.andThen_ok,run_equalIn_int W d 3 .i64 .i64 a b Tryz.underlying3]
 by_cases h:a=b
 ·subst h
  simp
 ·have:(a == b)=false:=by simpa using h
  simp[this,h]
theorem run_neqSh {x y:Operand}(a b:ScS)(W:World):(do eqGuard .neq 42 x y (.agg ⟨shVs a⟩) (.agg ⟨shVs b⟩);binOp .neq 42 (.agg ⟨shVs a⟩) (.agg ⟨shVs b⟩):Sem Value).run Tryz.prog W=.ok (.bool (decide (¬a=b))) W:=by
 simp only[Sem.run_bind]
 rw[run_eqGuard_agg W _ _ _ _ _ _ (by kernel_rfl)]
 simp only[Result.andThen_ok]
 rw[run_neq_struct,run_equalIn_agg W _ _ _ _ (by unfold Program.fieldsOf;rw[Tryz.underlying42]) (by kernel_rfl)]
 rw[show (Tryz.prog.fieldsOf 42)=_ by unfold Program.fieldsOf;rw[Tryz.underlying42]]
 simp only
 rw[eqf_int (a:=a.venue) (b:=b.venue) (by decide) rfl rfl rfl,eqf_int (a:=a.print) (b:=b.print) (by decide) rfl rfl rfl,eqf_int (a:=a.pack) (b:=b.pack) (by decide) rfl rfl rfl,eqf_int (a:=a.minute) (b:=b.minute) (by decide) rfl rfl rfl,eqf_int (a:=a.speed) (b:=b.speed) (by decide) rfl rfl rfl,eqf_int (a:=a.worth) (b:=b.worth) (by decide) rfl rfl rfl]
 have hnil:(Op.eqFields 9999 (⟨shVs a⟩:Array Value) ⟨shVs b⟩ []).run Tryz.prog W=.ok true W:=rfl
 rw[hnil]
 by_cases e1:a.venue=b.venue
 ·by_cases e2:a.print=b.print
  ·by_cases e3:a.pack=b.pack
   ·by_cases e4:a.minute=b.minute
    ·by_cases e5:a.speed=b.speed
     ·by_cases e6:a.worth=b.worth
      ·rw[if_pos e1,if_pos e2,if_pos e3,if_pos e4,if_pos e5,if_pos e6]
       obtain rfl:=ScS.ext' e1 e2 e3 e4 e5 e6
       simp
      ·rw[if_pos e1,if_pos e2,if_pos e3,if_pos e4,if_pos e5,if_neg e6,decide_eq_true (show ¬a=b from fun e=>e6 (by rw[e]))];rfl
     ·rw[if_pos e1,if_pos e2,if_pos e3,if_pos e4,if_neg e5,decide_eq_true (show ¬a=b from fun e=>e5 (by rw[e]))];rfl
    ·rw[if_pos e1,if_pos e2,if_pos e3,if_neg e4,decide_eq_true (show ¬a=b from fun e=>e4 (by rw[e]))];rfl
   ·rw[if_pos e1,if_pos e2,if_neg e3,decide_eq_true (show ¬a=b from fun e=>e3 (by rw[e]))];rfl
  ·rw[if_pos e1,if_neg e2,decide_eq_true (show ¬a=b from fun e=>e2 (by rw[e]))];rfl
 ·rw[if_neg e1,decide_eq_true (show ¬a=b from fun e=>e1 (by rw[e]))];rfl
theorem A_neqSh {m:Mem}{h:Heap}{d:Option Tmp}{ty:TypeId}{pos:String}{af:Array Edge}{gu:Option (Nat×Bool)}{tz:TypeId}{x y:Operand}{a b:ScS}(hx:opk h m x=some (.agg ⟨shVs a⟩))(hy:opk h m y=some (.agg ⟨shVs b⟩)):Aop Tryz.prog ⟨d,.binOp .neq 42 x y tz,ty,pos,af,gu⟩ m h (.bool (decide (¬a=b))) h :=
 A_bin hx hy rfl rfl rfl (run_neqSh a b)
theorem refShows_sv {a b:Option Addr}{ca cb:Nat}{l l':List ScS}{h:Heap}(hl:RowsAt 6 ScSR h a l)(hl':RowsAt 6 ScSR h b l')(hn:Len l)(hn':Len l'):Sv Tryz.prog 40 [.slice a l.length ca,.slice b l'.length cb] h (RetP fun v h'=>v=.bool (decide (l=l'))/\h'=h):=by
 refine Sv_enter Tryz.func40 rfl (by rw[Tryz.ntmps40];rfl) ?_;show Wc Tryz.prog ⟨40,26,none⟩ _ _ _ _ _
 refine zy ?_
 refine Wo_dec rfl rfl rfl rfl (A_neq rfl rfl) (fun h1=>?_) (fun h1=>?_)
 ·refine zy ?_
  exact Wc_ret (Lv_ret rfl ⟨by rw[decide_eq_false (fun e=>h1 (by rw[e]))];rfl,rfl⟩)
 have hll:l.length=l'.length:=by have:=Decidable.not_not.1 h1;omega
 refine zy ?_
 refine Wc_loop (fun (k:Nat) m ds h'=>ds=[]/\h=h'/\k<=l.length/\(∀j (hj:j<l.length),j<k->l[j]=l'[j]'(by omega))/\AllK m [(0,.slice a l.length ca),(1,.slice b l'.length cb),(5,i64 k)]) (fun k=>l.length-k) 0 ?_ ?_
 ·exact⟨rfl,rfl,Nat.zero_le _,(fun _ _ hj=>by omega),rfl,rfl,rfl,trivial⟩
 rintro k m ds h' ⟨rfl,rfl,hk,hno,hall⟩
 refine Wc.le ?_ (Le.kn hall)
 refine zy ?_
 refine Wo_dec rfl rfl rfl rfl (A_lss rfl rfl) (fun h3=>?_) (fun h3=>?_)
 ·have hk':k<l.length:=by simpa using h3
  have hne:∀(q:k<l'.length),¬l[k]=l'[k]->¬l=l':=fun q e e2=>e (by subst e2;rfl)
  have hnx:∀(q:k<l'.length),l[k]=l'[k]->∀j (hj:j<l.length),j<k+1->l[j]=l'[j]'(by omega):=fun q e j hj hlt=>by
   rcases Nat.lt_or_ge j k with g|g
   ·exact hno j hj g
   ·have:j=k:=by omega
    subst this;exact e
  obtain⟨b1,o1,oa1,rfl,r1,hc1,hr1⟩:=hl k hk'
  obtain⟨b2,o2,oa2,rfl,r2,hc2,hr2⟩:=hl' k (by omega)
  replace hne:=hne (by omega)
  replace hnx:=hnx (by omega)
  generalize l[k]=x at *
  generalize l'[k]'(by omega)=y at *
  obtain rfl:=hr1
  obtain rfl:=hr2
  refine zy ?_
  by_cases h4:x=y
  ·refine Wc_draw hmix [0,0,3,7,0,0,48,112,255] [0,1,2,3,4,5,6,7,8] none [] (by kernel_rfl) (by kernel_rfl) ?_
   refine z_m ?_;refine z_m ?_;refine z_i ?_;refine z_r ?_;refine z_m ?_;refine z_m ?_;refine z_i ?_;refine z_r ?_;refine Wp_pure rfl rfl rfl rfl rfl (fun _=>A_ff (fun e=>e h4) (A_neqSh (a:=x) (b:=y) rfl rfl)) ?_
   refine Wp_end (Stl_nil rfl) nb' ?_
   refine zy ?_
   exact⟨k+1,(by show l.length-(k+1)<l.length-k;omega),rfl,rfl,hk',hnx h4,rfl,rfl,rfl,trivial⟩
  ·refine Wc_draw hmix [0,0,3,7,0,0,48,112,255] [0,1,2,3,4,5,6,7,8] none [] (by kernel_rfl) (by kernel_rfl) ?_
   refine z_m ?_;refine z_m ?_;refine z_i ?_;refine z_r ?_;refine z_m ?_;refine z_m ?_;refine z_i ?_;refine z_r ?_;refine Wp_pure rfl rfl rfl rfl rfl (fun _=>A_tt h4 (A_neqSh (a:=x) (b:=y) rfl rfl)) ?_
   refine Wp_end (Stl_nil rfl) nb' ?_
   refine zy ?_
   exact Wc_ret (Lv_ret rfl ⟨by rw[decide_eq_false (hne h4)];rfl,rfl⟩)
 have he:l=l':=List.ext_getElem hll fun i h1 h2=>hno i h1 (by omega)
 refine zy ?_
 exact Wc_ret (Lv_ret rfl ⟨by rw[decide_eq_true he];rfl,rfl⟩)
end Go.Dw
