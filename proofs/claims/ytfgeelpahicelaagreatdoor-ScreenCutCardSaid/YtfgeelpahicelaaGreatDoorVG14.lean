/- B1: contracts: cuts: bench.After, telecineref05.After. -/
import Derived.Test.YtfgeelpahicelaaGreatDoorVG2
import Derived.Test.YtfgeelpahicelaaGreatDoorVG5
import Derived.Test.YtfgeelpahicelaaGreatDoorVG13
set_option linter.unusedVariables false
set_option linter.unusedSimpArgs false
namespace Go.Dw
open Go Go.Dx Go.Proofs
set_option maxRecDepth 100000
theorem bOut_sv (a lo hi:Int)(h:Heap):Sv Tryz.prog 98 [i64 a,i64 lo,i64 hi] h (RetP fun v h'=>v=.bool (decide (a<lo\/hi<a))/\h'=h):=by
 refine Sv_enter Tryz.func98 rfl (by rw[Tryz.ntmps98];rfl) ?_;show Wc Tryz.prog ⟨98,15,none⟩ _ _ _ _ _
 refine zy ?_
 refine Wo_dec rfl rfl rfl rfl (A_lss rfl rfl) (fun h1=>?_) (fun h1=>?_)
 ·refine zy ?_
  exact Wc_ret (Lv_ret rfl ⟨by rw[decide_eq_true (.inl h1)];rfl,rfl⟩)
 ·refine zy ?_
  refine Wo_dec rfl rfl rfl rfl (A_gtr rfl rfl) (fun h2=>?_) (fun h2=>?_)
  ·refine zy ?_
   exact Wc_ret (Lv_ret rfl ⟨by rw[decide_eq_true (.inr h2)];rfl,rfl⟩)
  ·refine zy ?_
   exact Wc_ret (Lv_ret rfl ⟨by rw[decide_eq_false (not_or.2 ⟨h1,h2⟩)];rfl,rfl⟩)
structure Cut.Fit (c:Cut):Prop where
 a:I64 c.a
 b:I64 c.b
theorem bLong_sv {a b:Int}(h1:-9223372036854775808<=b-a)(h2:b-a+1<9223372036854775808)(h:Heap):Sv Tryz.prog 100 [.agg ⟨[i64 a,i64 b]⟩] h (RetP fun v h'=>v=i64 (b-a+1)/\Ext h h'):=by
 refine Sv_wf fun hw=>?_
 refine Sv_enter Tryz.func100 rfl (by rw[Tryz.ntmps100];rfl) ?_;show Wc Tryz.prog ⟨100,9,none⟩ _ _ _ _ _
 refine zy ?_
 refine Wo_box rfl rfl rfl fun h3 hE3 hW3 hg3 hn3=>?_
 refine zy ?_
 exact Wc_ret (Lv_ret rfl ⟨rfl,hE3⟩)
theorem cutGo_bad {n:Int}{c:Cut}{cs:List Cut}(h:(c.a<0\/n-1<c.a)\/(c.b<0\/n-1<c.b)):cutGo n (c::cs)=(0,7):=by
 show (if _ then _ else _)=_
 rw[if_pos h]
theorem cutGo_arg {n:Int}{c:Cut}{cs:List Cut}(h:¬((c.a<0\/n-1<c.a)\/(c.b<0\/n-1<c.b)))(h2:c.b<c.a):cutGo n (c::cs)=(0,2):=by
 show (if _ then _ else _)=_
 rw[if_neg h,if_pos h2]
theorem cutGo_on {n:Int}{c:Cut}{cs:List Cut}(h:¬((c.a<0\/n-1<c.a)\/(c.b<0\/n-1<c.b)))(h2:¬c.b<c.a):cutGo n (c::cs)=cutGo (n-(c.b-c.a+1)) cs:=by
 show (if _ then _ else _)=_
 rw[if_neg h,if_neg h2]
theorem cutS_long {n:Int}{l:List Cut}(h:¬(n<1\/200000<n))(h2:30<l.length):cutS n l=(0,3):=by unfold cutS;rw[if_neg h,if_pos h2]
theorem cutS_go {n:Int}{l:List Cut}(h:¬(n<1\/200000<n))(h2:¬30<l.length):cutS n l=cutGo n l:=by unfold cutS;rw[if_neg h,if_neg h2]
theorem made_sv {n:Int}{cs:List Cut}{ac:Option Addr}{cc:Nat}{h:Heap}(hI:I64 n)(hc:RowsAt 2 CutR h ac cs)(hF:∀c∈cs,c.Fit)(hL:Len cs):Sv Tryz.prog 97 [i64 n,.slice ac cs.length cc] h (RetP fun v h'=>v=.tuple ⟨[i64 (cutS n cs).1,i64 (cutS n cs).2]⟩/\Ext h h'):=by
 refine Sv_wf fun hw=>?_
 refine Sv_enter Tryz.func97 rfl (by rw[Tryz.ntmps97];rfl) ?_;show Wc Tryz.prog ⟨97,46,none⟩ _ _ _ _ _
 refine zy ?_
 refine Wo_callP rfl rfl rfl rfl rfl Bod.h rfl rfl (bOut_sv _ _ _ _) (fun h1=>?_) (fun h1=>?_)
 ·replace h1:=of_decide_eq_true h1
  refine zy ?_
  exact Wc_ret (Lv_ret rfl ⟨by unfold cutS;rw[if_pos h1];rfl,Ext.refl _⟩)
 replace h1:=of_decide_eq_false h1
 refine zy ?_
 refine Wo_dec rfl rfl rfl rfl (A_gtr rfl rfl) (fun h2=>?_) (fun h2=>?_)
 ·refine zy ?_
  exact Wc_ret (Lv_ret rfl ⟨by rw[cutS_long h1 (by omega)];rfl,Ext.refl _⟩)
 rw[cutS_go h1 (by omega)]
 refine zy ?_
 refine Wc_loop (fun (s:Nat×Int) m ds h'=>ds=[]/\Ext h h'/\s.1<=cs.length/\0<=s.2/\s.2<=200000/\cutGo n cs=cutGo s.2 (cs.drop s.1)/\AllK m [(0,i64 s.2),(15,.slice ac cs.length cc),(16,i64 cs.length),(17,i64 s.1)]) (fun s=>cs.length-s.1) (0,n) ?_ ?_
 ·exact⟨rfl,Ext.refl _,Nat.zero_le _,by omega,by omega,by rw[List.drop_zero],rfl,rfl,rfl,rfl,trivial⟩
 rintro⟨k,x⟩ m ds h3 ⟨rfl,hE3,hk,hx0,hx1,hgo,hall⟩
 simp only at hk hx0 hx1 hgo hall
 refine Wc_wf fun hw3=>?_
 refine Wc.le ?_ (Le.kn hall)
 refine zy ?_
 refine Wo_dec rfl rfl rfl rfl (A_lss rfl rfl) (fun h4=>?_) (fun h4=>?_)
 rotate_left
 ·have hk2:k=cs.length:=by omega
  subst hk2
  rw[hgo,List.drop_length]
  refine zy ?_
  exact Wc_ret (Lv_ret rfl ⟨rfl,hE3⟩)
 have hk':k<cs.length:=by simpa using h4
 obtain⟨b,o,oa,rfl,row,hrow,hr⟩:=hc k hk'
 have hFc:=hF _ (List.getElem_mem hk')
 rw[List.drop_eq_getElem_cons hk'] at hgo
 rw[hgo]
 generalize cs[k]=c at *
 obtain rfl:=hr
 obtain⟨ca,cb⟩:=hFc
 unfold I64 at ca cb
 replace hrow:=hE3.row hrow
 refine zy ?_
 refine Wo_do rfl rfl rfl rfl (A_ix Und.h Tsz.h rfl rfl) ?_
 refine zy ?_
 refine Wo_allocStore rfl rfl Zr.h Tsz.h rfl (fun _=>rfl) rfl rfl rfl fun h5 hE5 hW5 hg5 hn5=>?_
 replace hE3:=hE3.trans hE5
 generalize h3.nx=b3 at *
 clear hrow hE5 hn5 hw3
 clear h3
 refine zy ?_
 refine Wo_callP rfl rfl rfl rfl rfl Bod.h rfl rfl (bOut_sv _ _ _ _) (fun h6=>?_) (fun h6=>?_)
 ·replace h6:=of_decide_eq_true h6
  refine zy ?_
  exact Wc_ret (Lv_ret rfl ⟨by rw[cutGo_bad (.inl h6)];rfl,hE3⟩)
 replace h6:=of_decide_eq_false h6
 refine zy ?_
 refine Wo_callP rfl rfl rfl rfl rfl Bod.h rfl rfl (bOut_sv _ _ _ _) (fun h7=>?_) (fun h7=>?_)
 ·replace h7:=of_decide_eq_true h7
  refine zy ?_
  exact Wc_ret (Lv_ret rfl ⟨by rw[cutGo_bad (.inr h7)];rfl,hE3⟩)
 replace h7:=of_decide_eq_false h7
 have h67:¬((c.a<0\/x-1<c.a)\/(c.b<0\/x-1<c.b)):=fun e=>e.elim h6 h7
 refine zy ?_
 refine Wo_dec rfl rfl rfl rfl (A_gtr rfl rfl) (fun h8=>?_) (fun h8=>?_)
 ·refine zy ?_
  exact Wc_ret (Lv_ret rfl ⟨by rw[cutGo_arg h67 h8];rfl,hE3⟩)
 rw[cutGo_on h67 h8]
 refine zy ?_
 refine Wo_callE rfl rfl rfl rfl rfl Bod.h rfl rfl (bLong_sv (by omega) (by omega) _) fun h9 hE9=>?_
 refine zy ?_
 exact⟨(k+1,x-(c.b-c.a+1)),(by show cs.length-(k+1)<cs.length-k;omega),rfl,hE3.trans hE9,hk',(by show 0<=x-(c.b-c.a+1);omega),(by show x-(c.b-c.a+1)<=200000;omega),rfl,rfl,rfl,rfl,rfl,trivial⟩
theorem afterC_over {c:Cut}{cs:List Cut}{i:Int}(h:c.b<i):afterC (c::cs) i=afterC cs (i-(c.b-c.a+1)):=by
 show (if _ then _ else _)=_
 rw[if_neg (by omega),if_pos h]
theorem afterC_in {c:Cut}{cs:List Cut}{i:Int}(h:¬c.b<i)(h2:c.a<=i):afterC (c::cs) i=none:=by
 show (if _ then _ else _)=_
 rw[if_pos ⟨h2,by omega⟩]
theorem afterC_below {c:Cut}{cs:List Cut}{i:Int}(h:¬c.b<i)(h2:¬c.a<=i):afterC (c::cs) i=afterC cs i:=by
 show (if _ then _ else _)=_
 rw[if_neg (fun e=>h2 e.1),if_neg h]
def afterV (n:Int)(cs:List Cut)(i:Int):Int×Int:=if (cutS n cs).2≠0 then (0,(cutS n cs).2) else if i<0\/n-1<i then (0,7) else match afterC cs i with|none=>(0,4)|some m=>(m,0)
theorem afterV_on {n:Int}{cs:List Cut}{i:Int}(h:(cutS n cs).2=0):afterV n cs i=if i<0\/n-1<i then ((0:Int),(7:Int)) else match afterC cs i with|none=>((0:Int),(4:Int))|some m=>(m,(0:Int)):=by
 unfold afterV;rw[if_neg (fun e=>e h)]
theorem cutS_ok {n:Int}{cs:List Cut}(h:(cutS n cs).2=0):1<=n/\n<=200000/\cs.length<=30/\CutsOk n cs:=by
 unfold cutS at h
 split at h
 ·cases h
 split at h
 ·cases h
 refine⟨by omega,by omega,by omega,(cutGo_ok (by omega) h).1⟩
theorem cuts_rng:∀{l:List Cut}{n:Int},CutsOk n l->n<=200000->∀c∈l,0<=c.a/\c.a<=c.b/\c.b<200000
 | [],_,_,_,_,h=>nomatch h
 | c::l,n,h,hn,x,hx=>by
  obtain⟨h1,h2,h3,h4⟩:=h
  rcases List.mem_cons.1 hx with rfl|hx
  ·exact⟨h1,h2,by omega⟩
  ·exact cuts_rng h4 (by omega) x hx
theorem gone_sv {b5:Nat}{c:Cut}{i:Int}{h:Heap}(hg:h.get b5=some (.cells [i64 i] 3 false))(hc:0<=c.a/\c.a<=c.b/\c.b<200000)(hi:0<=i/\i<=200000) :
  Sv Tryz.prog 99 [.agg ⟨[i64 c.a,i64 c.b]⟩,.pointer (some ⟨b5,0,none⟩)] h (RetP fun v h'=>Exb (fun b=>b=b5) h h'/\((c.b<i/\v=.bool false/\h'.get b5=some (.cells [i64 (i-(c.b-c.a+1))] 3 false))\/(¬c.b<i/\v=.bool (decide (c.a<=i))/\h'.get b5=some (.cells [i64 i] 3 false)))):=by
 obtain⟨c1,c2,c3⟩:=hc
 obtain⟨i1,i2⟩:=hi
 refine Sv_wf fun hw=>?_
 refine Sv_enter Tryz.func99 rfl (by rw[Tryz.ntmps99];rfl) ?_;show Wc Tryz.prog ⟨99,16,none⟩ _ _ _ _ _
 refine zy ?_
 refine Wo_box rfl rfl rfl fun h1 hE1 hW1 hg1 hn1=>?_
 replace hg:=hE1.get hg
 generalize h.nx=b1 at *
 refine zy ?_
 refine Wo_dec rfl rfl rfl rfl (A_gtr rfl rfl) (fun h2=>?_) (fun h2=>?_)
 ·refine zy ?_
  refine Wc_draw hmix [0,0,2,7,15] [0,1] (some 2) [([3],(some 4)),([],none)] (by kernel_rfl) (by kernel_rfl) ?_
  refine z_l ?_;refine z_r ?_
  refine Wp_eff [1] (by kernel_rfl) rfl (Stl_nil rfl) rfl nb rfl (W1_callE rfl rfl rfl rfl rfl Bod.h (bLong_sv (a:=c.a) (b:=c.b) (by omega) (by omega) _) (fun h3 hE3=>?_))
  have k1:=hE3.get hg1
  have k5:=hE3.get hg
  refine z_u ?_
  refine Wp_eff [0,1,2,3] (by kernel_rfl) rfl (by refine t_l 0 ?_;exact Stl_nil rfl) rfl nb rfl (W1_store rfl rfl Tsz.h rfl rfl k5 rfl rfl rfl (fun h4 hU4=>?_))
  refine Wp_end (Stl_nil rfl) nb' ?_
  refine zy ?_
  exact Wc_ret (Lv_ret rfl ⟨(Exb.of (hE1.trans hE3)).upd hU4 rfl,.inl ⟨h2,rfl,hU4.at'⟩⟩)
 ·refine zy ?_
  refine Wo_do rfl rfl rfl rfl (A_geq rfl rfl) ?_
  refine zy ?_
  exact Wc_ret (Lv_ret rfl ⟨Exb.of hE1,.inr ⟨h2,rfl,hg⟩⟩)
theorem goneIx_sv {b5:Nat}{cs:List Cut}{i:Int}{ac:Option Addr}{cc:Nat}{h:Heap}(hg:h.get b5=some (.cells [i64 i] 3 false))(hcs:RowsAt 2 CutR h ac cs)(hne:∀b o oa,ac=some ⟨b,o,oa⟩->cs≠[]->b≠b5)(hc:∀c∈cs,0<=c.a/\c.a<=c.b/\c.b<200000)(hi:0<=i/\i<=200000)(hL:Len cs) :
  Sv Tryz.prog 154 [.slice ac cs.length cc,.func (.func 99) ⟨[]⟩ ⟨[.pointer (some ⟨b5,0,none⟩)]⟩] h (RetP fun v h'=>Exb (fun b=>b=b5) h h'/\((afterC cs i=none/\∃k:Nat,v=i64 k)\/∃n,afterC cs i=some n/\v=i64 (-1)/\h'.get b5=some (.cells [i64 n] 3 false)/\I64 n)):=by
 refine Sv_enter Tryz.func154 rfl (by rw[Tryz.ntmps154];rfl) ?_;show Wc Tryz.prog ⟨154,19,none⟩ _ _ _ _ _
 refine zy ?_
 refine Wc_loop (fun (s:Nat×Int) m ds h'=>ds=[]/\Exb (fun b=>b=b5) h h'/\s.1<=cs.length/\h'.get b5=some (.cells [i64 s.2] 3 false)/\(0<=s.2/\s.2<=200000)/\afterC cs i=afterC (cs.drop s.1) s.2/\AllK m [(0,.slice ac cs.length cc),(1,.func (.func 99) ⟨[]⟩ ⟨[.pointer (some ⟨b5,0,none⟩)]⟩),(7,i64 cs.length),(8,i64 s.1)])
  (fun s=>cs.length-s.1) (0,i) ?_ ?_
 ·exact⟨rfl,Exb.refl _ _,Nat.zero_le _,hg,hi,by rw[List.drop_zero],rfl,rfl,rfl,rfl,trivial⟩
 rintro⟨k,x⟩ m ds h' ⟨rfl,hE,hk,hgx,hx,haf,hall⟩
 simp only at hk hgx hx haf hall
 refine Wc.le ?_ (Le.kn hall)
 refine zy ?_
 refine Wo_dec rfl rfl rfl rfl (A_lss rfl rfl) (fun h1=>?_) (fun h1=>?_)
 ·have hk':k<cs.length:=by simpa using h1
  obtain⟨b,o,oa,rfl,row,hrow,hr⟩:=hcs k hk'
  have hnb:=hne b o oa rfl (by intro e;rw[e] at hk';exact absurd hk' (Nat.not_lt_zero _))
  have hcc:=hc _ (List.getElem_mem hk')
  rw[List.drop_eq_getElem_cons hk'] at haf
  generalize cs[k]=c at *
  obtain rfl:=hr
  have hrow':rowAt h' b (o+k*2) 2=some [i64 c.a,i64 c.b]:=by
   obtain⟨x,hx⟩:=rowAt_some hrow
   rw[rowAt_get (hE.get (S:=fun b=>b=b5) hnb hx |>.trans hx.symm)];exact hrow
  refine zy ?_
  refine Wo_do rfl rfl rfl rfl (A_ix Und.h Tsz.h rfl rfl) ?_
  refine zy ?_
  refine Wo_callr rfl rfl rfl rfl rfl Bod.h rfl rfl (gone_sv hgx hcc hx) ?_
  rintro v h2 ⟨hE2,⟨c1,rfl,hg2⟩|⟨c1,rfl,hg2⟩⟩
  ·rw[afterC_over c1] at haf
   refine zy ?_
   exact⟨(k+1,x-(c.b-c.a+1)),(by show cs.length-(k+1)<cs.length-k;omega),rfl,hE.trans hE2,hk',hg2,(by show 0<=x-(c.b-c.a+1)/\x-(c.b-c.a+1)<=200000;omega),haf,rfl,rfl,rfl,rfl,trivial⟩
  ·by_cases c2:c.a<=x
   ·rw[afterC_in c1 c2] at haf
    rw[decide_eq_true c2]
    refine zy ?_
    exact Wc_ret (Lv_ret rfl ⟨hE.trans hE2,.inl ⟨haf,k,rfl⟩⟩)
   ·rw[afterC_below c1 c2] at haf
    rw[decide_eq_false c2]
    refine zy ?_
    exact⟨(k+1,x),(by show cs.length-(k+1)<cs.length-k;omega),rfl,hE.trans hE2,hk',hg2,hx,haf,rfl,rfl,rfl,rfl,trivial⟩
 ·have hk2:k=cs.length:=by omega
  subst hk2
  rw[List.drop_length] at haf
  refine zy ?_
  exact Wc_ret (Lv_ret rfl ⟨hE,.inr ⟨x,haf,rfl,hgx,by omega,by omega⟩⟩)
theorem goneAny_sv {b5:Nat}{cs:List Cut}{i:Int}{ac:Option Addr}{cc:Nat}{h:Heap}(hg:h.get b5=some (.cells [i64 i] 3 false))(hcs:RowsAt 2 CutR h ac cs)(hne:∀b o oa,ac=some ⟨b,o,oa⟩->cs≠[]->b≠b5)(hc:∀c∈cs,0<=c.a/\c.a<=c.b/\c.b<200000)(hi:0<=i/\i<=200000)(hL:Len cs) :
  Sv Tryz.prog 101 [.slice ac cs.length cc,.func (.func 99) ⟨[]⟩ ⟨[.pointer (some ⟨b5,0,none⟩)]⟩] h (RetP fun v h'=>Exb (fun b=>b=b5) h h'/\((afterC cs i=none/\v=.bool true)\/∃n,afterC cs i=some n/\v=.bool false/\h'.get b5=some (.cells [i64 n] 3 false)/\I64 n)):=by
 refine Sv_enter Tryz.func101 rfl (by rw[Tryz.ntmps101];rfl) ?_;show Wc Tryz.prog ⟨101,9,none⟩ _ _ _ _ _
 refine zy ?_
 refine Wo_callr rfl rfl rfl rfl rfl Bod.h rfl rfl (goneIx_sv hg hcs hne hc hi hL) ?_
 rintro v h1 ⟨hE1,⟨ha,k,rfl⟩|⟨n,ha,rfl,hg1,hn⟩⟩
 ·refine zy ?_
  refine Wo_do rfl rfl rfl rfl (A_tt (by omega) (A_geq rfl rfl)) ?_
  refine zy ?_
  exact Wc_ret (Lv_ret rfl ⟨hE1,.inl ⟨ha,rfl⟩⟩)
 ·refine zy ?_
  refine Wo_do rfl rfl rfl rfl (A_ff (by decide) (A_geq rfl rfl)) ?_
  refine zy ?_
  exact Wc_ret (Lv_ret rfl ⟨hE1,.inr ⟨n,ha,rfl,hg1,hn⟩⟩)
theorem after_sv {n i:Int}{cs:List Cut}{ac:Option Addr}{cc:Nat}{h:Heap}(hI:I64 n)(hi:I64 i)(hcs:RowsAt 2 CutR h ac cs)(hF:∀c∈cs,c.Fit)(hL:Len cs):Sv Tryz.prog 35 [i64 n,.slice ac cs.length cc,i64 i] h (RetP fun v h'=>v=.tuple ⟨[i64 (afterV n cs i).1,i64 (afterV n cs i).2]⟩/\Ext h h'):=by
 refine Sv_wf fun hw=>?_
 refine Sv_enter Tryz.func35 rfl (by rw[Tryz.ntmps35];rfl) ?_;show Wc Tryz.prog ⟨35,31,none⟩ _ _ _ _ _
 refine zy ?_
 refine Wo_box rfl rfl rfl fun h1 hE1 hW1 hg1 hn1=>?_
 have hb1:h.nx<=h.nx:=Nat.le_refl _
 generalize hbq:h.nx=b5 at hg1 hb1 ⊢
 refine zy ?_
 refine Wo_callE rfl rfl rfl rfl rfl Bod.h rfl rfl (made_sv hI (RowsAt.ext (R:=CutR) (fun x _=>x) hcs hE1) hF hL) fun h2 hE2=>?_
 replace hg1:=hE2.get hg1
 have hE:=hE1.trans hE2
 by_cases he:(cutS n cs).2=0
 rotate_left
 ·have e:afterV n cs i=(0,(cutS n cs).2):=by unfold afterV;rw[if_pos he]
  rw[e]
  refine zy ?_
  refine Wo_do rfl rfl rfl rfl (A_tt he (A_neq rfl rfl)) ?_
  refine zy ?_
  exact Wc_ret (Lv_ret rfl ⟨rfl,hE⟩)
 obtain⟨n1,n2,n3,hok⟩:=cutS_ok he
 have hav:=afterV_on (i:=i) he
 refine zy ?_
 refine Wo_do rfl rfl rfl rfl (A_ff (show ¬(cutS n cs).2≠0 from fun e=>e he) (A_neq rfl rfl)) ?_
 refine zy ?_
 refine Wo_callP rfl rfl rfl rfl rfl Bod.h rfl rfl (bOut_sv _ _ _ _) (fun h3=>?_) (fun h3=>?_)
 ·rw[if_pos (of_decide_eq_true h3)] at hav
  rw[hav]
  refine zy ?_
  exact Wc_ret (Lv_ret rfl ⟨rfl,hE⟩)
 replace h3:=of_decide_eq_false h3
 rw[if_neg h3] at hav
 rw[hav]
 refine zy ?_
 refine Wo_callr rfl rfl rfl rfl rfl Bod.h rfl rfl (goneAny_sv hg1 (RowsAt.ext (R:=CutR) (fun x _=>x) hcs hE) (fun b o oa e hn hb=>by
  subst e
  obtain⟨b',o',oa',e',row,hrow,-⟩:=hcs 0 (List.length_pos_iff.2 hn)
  cases e'
  obtain⟨x,hx⟩:=rowAt_some hrow
  have:=hw _ _ hx
  omega) (cuts_rng hok n2) (by omega) hL) ?_
 rintro v h4 ⟨hE4,⟨ha,rfl⟩|⟨q,ha,rfl,hg4,hq⟩⟩
 ·rw[ha]
  refine zy ?_
  exact Wc_ret (Lv_ret rfl ⟨rfl,hE4.ext hE hw (fun b hb=>by omega)⟩)
 ·rw[ha]
  refine zy ?_
  exact Wc_ret (Lv_ret rfl ⟨rfl,hE4.ext hE hw (fun b hb=>by omega)⟩)
end Go.Dw
