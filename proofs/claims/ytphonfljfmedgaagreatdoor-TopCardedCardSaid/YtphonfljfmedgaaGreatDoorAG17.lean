/- B1: contracts: cuts: bench.After, telecineref05.After. -/
import Derived.Test.YtphonfljfmedgaaGreatDoorAG2
import Derived.Test.YtphonfljfmedgaaGreatDoorAG16
import Derived.Test.YtphonfljfmedgaaGreatDoorAG14
import Derived.Test.YtphonfljfmedgaaGreatDoorAG15
import Derived.Test.YtphonfljfmedgaaGreatDoorAG13
set_option linter.unusedVariables false
set_option linter.unusedSimpArgs false
namespace Go.Dw
open Go Go.Dx Go.Proofs
set_option maxRecDepth 100000
theorem ZI0 (a lo hi:Int)(h:Heap):Sv Tryz.prog 42 [i64 a,i64 lo,i64 hi] h (RetP fun v h'=>v=.bool (decide (a<lo\/hi<a))/\h'=h):=by
 refine ZAF Tryz.func42 rfl (by rw[Tryz.ntmps42];rfl) ?_;show Wc Tryz.prog ⟨42,15,none⟩ _ _ _ _ _;refine zy ?_;refine zC (ZAx rfl rfl) (fun h1=>?_) (fun h1=>?_)
 ·refine zy ?_
  exact ZAB (ZAC rfl ⟨by rw[decide_eq_true (.inl h1)];rfl,rfl⟩)
 ·refine zy ?_
  refine zC (ZBw rfl rfl) (fun h2=>?_) (fun h2=>?_)
  ·refine zy ?_
   exact ZAB (ZAC rfl ⟨by rw[decide_eq_true (.inr h2)];rfl,rfl⟩)
  ·refine zy ?_
   exact ZAB (ZAC rfl ⟨by rw[decide_eq_false (not_or.2 ⟨h1,h2⟩)];rfl,rfl⟩)
structure Cut.Fit (c:Cut):Prop where
 a:I64 c.a
 b:I64 c.b
theorem ZMJ {a b:Int}(h1:-9223372036854775808<=b-a)(h2:b-a+1<9223372036854775808)(h:Heap):Sv Tryz.prog 64 [.agg ⟨[i64 a,i64 b]⟩] h (RetP fun v h'=>v=i64 (b-a+1)/\Ext h h'):=by
 refine ZA0 fun hw=>?_;refine ZAF Tryz.func64 rfl (by rw[Tryz.ntmps64];rfl) ?_;show Wc Tryz.prog ⟨64,9,none⟩ _ _ _ _ _;refine zy ?_;refine ZAv rfl rfl rfl fun h3 hE3 hW3 hg3 hn3=>?_;refine zy ?_;exact ZAB (ZAC rfl ⟨rfl,hE3⟩)
theorem ZKT {n:Int}{c:Cut}{cs:List Cut}(h:(c.a<0\/n-1<c.a)\/(c.b<0\/n-1<c.b)):ZFs n (c::cs)=(0,7):=by
 show (if _ then _ else _)=_
 rw[if_pos h]
theorem ZPc {n:Int}{c:Cut}{cs:List Cut}(h:¬((c.a<0\/n-1<c.a)\/(c.b<0\/n-1<c.b)))(h2:c.b<c.a):ZFs n (c::cs)=(0,2):=by
 show (if _ then _ else _)=_
 rw[if_neg h,if_pos h2]
theorem ZQn {n:Int}{c:Cut}{cs:List Cut}(h:¬((c.a<0\/n-1<c.a)\/(c.b<0\/n-1<c.b)))(h2:¬c.b<c.a):ZFs n (c::cs)=ZFs (n-(c.b-c.a+1)) cs:=by
 show (if _ then _ else _)=_
 rw[if_neg h,if_neg h2]
theorem ZOK {n:Int}{l:List Cut}(h:¬(n<1\/200000<n))(h2:30<l.length):cutS n l=(0,3):=by unfold cutS;rw[if_neg h,if_pos h2]
theorem ZTa {n:Int}{l:List Cut}(h:¬(n<1\/200000<n))(h2:¬30<l.length):cutS n l=ZFs n l:=by unfold cutS;rw[if_neg h,if_neg h2]
theorem ZSf {n:Int}{cs:List Cut}{ac:Option Addr}{cc:Nat}{h:Heap}(hI:I64 n)(hc:ZAV 2 CutR h ac cs)(hF:∀c∈cs,c.Fit)(hL:Len cs):Sv Tryz.prog 62 [i64 n,.slice ac cs.length cc] h (RetP fun v h'=>v=.tuple ⟨[i64 (cutS n cs).1,i64 (cutS n cs).2]⟩/\Ext h h'):=by
 refine ZA0 fun hw=>?_;refine ZAF Tryz.func62 rfl (by rw[Tryz.ntmps62];rfl) ?_;show Wc Tryz.prog ⟨62,46,none⟩ _ _ _ _ _;refine zy ?_;refine ZDG rfl rfl rfl rfl rfl Bod.h rfl rfl (ZI0 _ _ _ _) (fun h1=>?_) (fun h1=>?_)
 ·replace h1:=of_decide_eq_true h1
  refine zy ?_;exact ZAB (ZAC rfl ⟨by unfold cutS;rw[if_pos h1];rfl,Ext.refl _⟩)
 replace h1:=of_decide_eq_false h1;refine zy ?_;refine zC (ZBw rfl rfl) (fun h2=>?_) (fun h2=>?_)
 ·refine zy ?_
  exact ZAB (ZAC rfl ⟨by rw[ZOK h1 (by omega)];rfl,Ext.refl _⟩)
 rw[ZTa h1 (by omega)];refine zy ?_;refine ZAS (fun (s:Nat×Int) m ds h'=>ds=[]/\Ext h h'/\s.1<=cs.length/\0<=s.2/\s.2<=200000/\ZFs n cs=ZFs s.2 (cs.drop s.1)/\AllK m [(0,i64 s.2),(15,.slice ac cs.length cc),(16,i64 cs.length),(17,i64 s.1)]) (fun s=>cs.length-s.1) (0,n) ?_ ?_
 ·exact⟨rfl,Ext.refl _,Nat.zero_le _,by omega,by omega,by rw[List.drop_zero],rfl,rfl,rfl,rfl,trivial⟩
 rintro⟨k,x⟩ m ds h3 ⟨rfl,hE3,hk,hx0,hx1,hgo,hall⟩;simp only at hk hx0 hx1 hgo hall;refine ZBg fun hw3=>?_;refine Wc.le ?_ (Le.kn hall);refine zy ?_;refine zC (ZAx rfl rfl) (fun h4=>?_) (fun h4=>?_);rotate_left
 ·have hk2:k=cs.length:=by omega
  subst hk2;rw[hgo,List.drop_length];refine zy ?_;exact ZAB (ZAC rfl ⟨rfl,hE3⟩)
 have hk':k<cs.length:=by simpa using h4
 obtain⟨b,o,oa,rfl,row,hrow,hr⟩:=hc k hk';have hFc:=hF _ (List.getElem_mem hk');rw[List.drop_eq_getElem_cons hk'] at hgo;rw[hgo];generalize cs[k]=c at *;obtain rfl:=hr;obtain⟨ca,cb⟩:=hFc;unfold I64 at ca cb;replace hrow:=hE3.row hrow;refine zy ?_;refine zD (A_ix Und.h Tsz.h rfl rfl) ?_;refine ZAH rfl rfl Zr.h Tsz.h rfl (fun _=>rfl) rfl rfl rfl fun h5 hE5 hW5 hg5 hn5=>?_;replace hE3:=hE3.trans hE5;generalize h3.nx=b3 at *;clear hrow hE5 hn5 hw3;clear h3;refine zy ?_;refine ZDG rfl rfl rfl rfl rfl Bod.h rfl rfl (ZI0 _ _ _ _) (fun h6=>?_) (fun h6=>?_)
 ·replace h6:=of_decide_eq_true h6
  refine zy ?_;exact ZAB (ZAC rfl ⟨by rw[ZKT (.inl h6)];rfl,hE3⟩)
 replace h6:=of_decide_eq_false h6;refine zy ?_;refine ZDG rfl rfl rfl rfl rfl Bod.h rfl rfl (ZI0 _ _ _ _) (fun h7=>?_) (fun h7=>?_)
 ·replace h7:=of_decide_eq_true h7
  refine zy ?_;exact ZAB (ZAC rfl ⟨by rw[ZKT (.inr h7)];rfl,hE3⟩)
 replace h7:=of_decide_eq_false h7;have h67:¬((c.a<0\/x-1<c.a)\/(c.b<0\/x-1<c.b)):=fun e=>e.elim h6 h7;refine zy ?_;refine zC (ZBw rfl rfl) (fun h8=>?_) (fun h8=>?_)
 ·refine zy ?_
  exact ZAB (ZAC rfl ⟨by rw[ZPc h67 h8];rfl,hE3⟩)
 rw[ZQn h67 h8];refine zy ?_;refine zW (ZMJ (a:=c.a) (b:=c.b) (by omega) (by omega) _) fun h9 hE9=>?_;refine zy ?_;exact⟨(k+1,x-(c.b-c.a+1)),(by show cs.length-(k+1)<cs.length-k;omega),rfl,hE3.trans hE9,hk',(by show 0<=x-(c.b-c.a+1);omega),(by show x-(c.b-c.a+1)<=200000;omega),rfl,rfl,rfl,rfl,rfl,trivial⟩
theorem ZK4 {c:Cut}{cs:List Cut}{i:Int}(h:c.b<i):ZCo (c::cs) i=ZCo cs (i-(c.b-c.a+1)):=by
 show (if _ then _ else _)=_
 rw[if_neg (by omega),if_pos h]
theorem ZOv {c:Cut}{cs:List Cut}{i:Int}(h:¬c.b<i)(h2:c.a<=i):ZCo (c::cs) i=none:=by
 show (if _ then _ else _)=_
 rw[if_pos ⟨h2,by omega⟩]
theorem ZJ8 {c:Cut}{cs:List Cut}{i:Int}(h:¬c.b<i)(h2:¬c.a<=i):ZCo (c::cs) i=ZCo cs i:=by
 show (if _ then _ else _)=_
 rw[if_neg (fun e=>h2 e.1),if_neg h]
def ZGp (n:Int)(cs:List Cut)(i:Int):Int×Int:=if (cutS n cs).2≠0 then (0,(cutS n cs).2) else if i<0\/n-1<i then (0,7) else match ZCo cs i with|none=>(0,4)|some m=>(m,0)
theorem ZO8 {n:Int}{cs:List Cut}{i:Int}(h:(cutS n cs).2=0):ZGp n cs i=if i<0\/n-1<i then ((0:Int),(7:Int)) else match ZCo cs i with|none=>((0:Int),(4:Int))|some m=>(m,(0:Int)):=by
 unfold ZGp;rw[if_neg (fun e=>e h)]
theorem ZSi {n:Int}{cs:List Cut}(h:(cutS n cs).2=0):1<=n/\n<=200000/\cs.length<=30/\ZL1 n cs:=by
 unfold cutS at h
 split at h
 ·cases h
 split at h
 ·cases h
 refine⟨by omega,by omega,by omega,(ZMm (by omega) h).1⟩
theorem ZMF:∀{l:List Cut}{n:Int},ZL1 n l->n<=200000->∀c∈l,0<=c.a/\c.a<=c.b/\c.b<200000
 | [],_,_,_,_,h=>nomatch h
 | c::l,n,h,hn,x,hx=>by
  obtain⟨h1,h2,h3,h4⟩:=h
  rcases List.mem_cons.1 hx with rfl|hx
  ·exact⟨h1,h2,by omega⟩
  ·exact ZMF h4 (by omega) x hx
theorem ZSj {b5:Nat}{c:Cut}{i:Int}{h:Heap}(hg:h.get b5=some (.cells [i64 i] 3 false))(hc:0<=c.a/\c.a<=c.b/\c.b<200000)(hi:0<=i/\i<=200000) :
  Sv Tryz.prog 63 [.agg ⟨[i64 c.a,i64 c.b]⟩,.pointer (some ⟨b5,0,none⟩)] h (RetP fun v h'=>Exb (fun b=>b=b5) h h'/\((c.b<i/\v=.bool false/\h'.get b5=some (.cells [i64 (i-(c.b-c.a+1))] 3 false))\/(¬c.b<i/\v=.bool (decide (c.a<=i))/\h'.get b5=some (.cells [i64 i] 3 false)))):=by
 obtain⟨c1,c2,c3⟩:=hc;obtain⟨i1,i2⟩:=hi;refine ZA0 fun hw=>?_;refine ZAF Tryz.func63 rfl (by rw[Tryz.ntmps63];rfl) ?_;show Wc Tryz.prog ⟨63,16,none⟩ _ _ _ _ _;refine zy ?_;refine ZAv rfl rfl rfl fun h1 hE1 hW1 hg1 hn1=>?_;replace hg:=hE1.get hg;generalize h.nx=b1 at *;refine zy ?_;refine zC (ZBw rfl rfl) (fun h2=>?_) (fun h2=>?_)
 ·refine zy ?_
  refine ZAR hmix [0,0,2,7,15] [0,1] (some 2) [([3],(some 4)),([],none)] (by kernel_rfl) (by kernel_rfl) ?_;refine z_l ?_;refine z_r ?_;refine ZAM [1] (by kernel_rfl) rfl (ZAA rfl) rfl nb rfl (ZQP rfl rfl rfl rfl rfl Bod.h (ZMJ (a:=c.a) (b:=c.b) (by omega) (by omega) _) (fun h3 hE3=>?_));have k1:=hE3.get hg1;have k5:=hE3.get hg;refine z_u ?_;refine ZAM [0,1,2,3] (by kernel_rfl) rfl (by refine t_l 0 ?_;exact ZAA rfl) rfl nb rfl (ZCW rfl rfl Tsz.h rfl rfl k5 rfl rfl rfl (fun h4 hU4=>?_));refine ZAc (ZAA rfl) nb' ?_;refine zy ?_;exact ZAB (ZAC rfl ⟨(Exb.of (hE1.trans hE3)).upd hU4 rfl,.inl ⟨h2,rfl,hU4.at'⟩⟩)
 ·refine zy ?_
  refine zD (ZHO rfl rfl) ?_;exact ZAB (ZAC rfl ⟨Exb.of hE1,.inr ⟨h2,rfl,hg⟩⟩)
theorem ZOU {b5:Nat}{cs:List Cut}{i:Int}{ac:Option Addr}{cc:Nat}{h:Heap}(hg:h.get b5=some (.cells [i64 i] 3 false))(hcs:ZAV 2 CutR h ac cs)(hne:∀b o oa,ac=some ⟨b,o,oa⟩->cs≠[]->b≠b5)(hc:∀c∈cs,0<=c.a/\c.a<=c.b/\c.b<200000)(hi:0<=i/\i<=200000)(hL:Len cs) :
  Sv Tryz.prog 92 [.slice ac cs.length cc,.func (.func 63) ⟨[]⟩ ⟨[.pointer (some ⟨b5,0,none⟩)]⟩] h (RetP fun v h'=>Exb (fun b=>b=b5) h h'/\((ZCo cs i=none/\∃k:Nat,v=i64 k)\/∃n,ZCo cs i=some n/\v=i64 (-1)/\h'.get b5=some (.cells [i64 n] 3 false)/\I64 n)):=by
 refine ZAF Tryz.func92 rfl (by rw[Tryz.ntmps92];rfl) ?_;show Wc Tryz.prog ⟨92,19,none⟩ _ _ _ _ _;refine zy ?_
 refine ZAS (fun (s:Nat×Int) m ds h'=>ds=[]/\Exb (fun b=>b=b5) h h'/\s.1<=cs.length/\h'.get b5=some (.cells [i64 s.2] 3 false)/\(0<=s.2/\s.2<=200000)/\ZCo cs i=ZCo (cs.drop s.1) s.2/\AllK m [(0,.slice ac cs.length cc),(1,.func (.func 63) ⟨[]⟩ ⟨[.pointer (some ⟨b5,0,none⟩)]⟩),(7,i64 cs.length),(8,i64 s.1)])
  (fun s=>cs.length-s.1) (0,i) ?_ ?_
 ·exact⟨rfl,Exb.refl _ _,Nat.zero_le _,hg,hi,by rw[List.drop_zero],rfl,rfl,rfl,rfl,trivial⟩
 rintro⟨k,x⟩ m ds h' ⟨rfl,hE,hk,hgx,hx,haf,hall⟩;simp only at hk hgx hx haf hall;refine Wc.le ?_ (Le.kn hall);refine zy ?_;refine zC (ZAx rfl rfl) (fun h1=>?_) (fun h1=>?_)
 ·have hk':k<cs.length:=by simpa using h1
  obtain⟨b,o,oa,rfl,row,hrow,hr⟩:=hcs k hk';have hnb:=hne b o oa rfl (by intro e;rw[e] at hk';exact absurd hk' (Nat.not_lt_zero _));have hcc:=hc _ (List.getElem_mem hk');rw[List.drop_eq_getElem_cons hk'] at haf;generalize cs[k]=c at *;obtain rfl:=hr;have hrow':ZBC h' b (o+k*2) 2=some [i64 c.a,i64 c.b]:=by
   obtain⟨x,hx⟩:=ZFz hrow;rw[ZKa (hE.get (S:=fun b=>b=b5) hnb hx |>.trans hx.symm)];exact hrow
  refine zy ?_;refine zD (A_ix Und.h Tsz.h rfl rfl) ?_;refine zR (ZSj hgx hcc hx) ?_;rintro v h2 ⟨hE2,⟨c1,rfl,hg2⟩|⟨c1,rfl,hg2⟩⟩
  ·rw[ZK4 c1] at haf
   refine zy ?_;exact⟨(k+1,x-(c.b-c.a+1)),(by show cs.length-(k+1)<cs.length-k;omega),rfl,hE.trans hE2,hk',hg2,(by show 0<=x-(c.b-c.a+1)/\x-(c.b-c.a+1)<=200000;omega),haf,rfl,rfl,rfl,rfl,trivial⟩
  ·by_cases c2:c.a<=x
   ·rw[ZOv c1 c2] at haf
    rw[decide_eq_true c2];refine zy ?_;exact ZAB (ZAC rfl ⟨hE.trans hE2,.inl ⟨haf,k,rfl⟩⟩)
   ·rw[ZJ8 c1 c2] at haf
    rw[decide_eq_false c2];refine zy ?_;exact⟨(k+1,x),(by show cs.length-(k+1)<cs.length-k;omega),rfl,hE.trans hE2,hk',hg2,hx,haf,rfl,rfl,rfl,rfl,trivial⟩
 ·have hk2:k=cs.length:=by omega
  subst hk2;rw[List.drop_length] at haf;refine zy ?_;exact ZAB (ZAC rfl ⟨hE,.inr ⟨x,haf,rfl,hgx,by omega,by omega⟩⟩)
theorem ZNC {b5:Nat}{cs:List Cut}{i:Int}{ac:Option Addr}{cc:Nat}{h:Heap}(hg:h.get b5=some (.cells [i64 i] 3 false))(hcs:ZAV 2 CutR h ac cs)(hne:∀b o oa,ac=some ⟨b,o,oa⟩->cs≠[]->b≠b5)(hc:∀c∈cs,0<=c.a/\c.a<=c.b/\c.b<200000)(hi:0<=i/\i<=200000)(hL:Len cs) :
  Sv Tryz.prog 65 [.slice ac cs.length cc,.func (.func 63) ⟨[]⟩ ⟨[.pointer (some ⟨b5,0,none⟩)]⟩] h (RetP fun v h'=>Exb (fun b=>b=b5) h h'/\((ZCo cs i=none/\v=.bool true)\/∃n,ZCo cs i=some n/\v=.bool false/\h'.get b5=some (.cells [i64 n] 3 false)/\I64 n)):=by
 refine ZAF Tryz.func65 rfl (by rw[Tryz.ntmps65];rfl) ?_;show Wc Tryz.prog ⟨65,9,none⟩ _ _ _ _ _;refine zy ?_;refine zR (ZOU hg hcs hne hc hi hL) ?_;rintro v h1 ⟨hE1,⟨ha,k,rfl⟩|⟨n,ha,rfl,hg1,hn⟩⟩
 ·refine zy ?_
  refine zD (A_tt (by omega) (ZHO rfl rfl)) ?_;exact ZAB (ZAC rfl ⟨hE1,.inl ⟨ha,rfl⟩⟩)
 ·refine zy ?_
  refine zD (A_ff (by decide) (ZHO rfl rfl)) ?_;exact ZAB (ZAC rfl ⟨hE1,.inr ⟨n,ha,rfl,hg1,hn⟩⟩)
theorem ZRg {n i:Int}{cs:List Cut}{ac:Option Addr}{cc:Nat}{h:Heap}(hI:I64 n)(hi:I64 i)(hcs:ZAV 2 CutR h ac cs)(hF:∀c∈cs,c.Fit)(hL:Len cs):Sv Tryz.prog 32 [i64 n,.slice ac cs.length cc,i64 i] h (RetP fun v h'=>v=.tuple ⟨[i64 (ZGp n cs i).1,i64 (ZGp n cs i).2]⟩/\Ext h h'):=by
 refine ZA0 fun hw=>?_;refine ZAF Tryz.func32 rfl (by rw[Tryz.ntmps32];rfl) ?_;show Wc Tryz.prog ⟨32,31,none⟩ _ _ _ _ _;refine zy ?_;refine ZAv rfl rfl rfl fun h1 hE1 hW1 hg1 hn1=>?_;have hb1:h.nx<=h.nx:=Nat.le_refl _;generalize hbq:h.nx=b5 at hg1 hb1 ⊢;refine zy ?_;refine zW (ZSf hI (ZAV.ext (R:=CutR) (fun x _=>x) hcs hE1) hF hL) fun h2 hE2=>?_;replace hg1:=hE2.get hg1;have hE:=hE1.trans hE2
 by_cases he:(cutS n cs).2=0
 rotate_left
 ·have e:ZGp n cs i=(0,(cutS n cs).2):=by unfold ZGp;rw[if_pos he]
  rw[e];refine zy ?_;refine zD (A_tt he (ZA3 rfl rfl)) ?_;exact ZAB (ZAC rfl ⟨rfl,hE⟩)
 obtain⟨n1,n2,n3,hok⟩:=ZSi he;have hav:=ZO8 (i:=i) he;refine zy ?_;refine zD (A_ff (show ¬(cutS n cs).2≠0 from fun e=>e he) (ZA3 rfl rfl)) ?_;refine ZDG rfl rfl rfl rfl rfl Bod.h rfl rfl (ZI0 _ _ _ _) (fun h3=>?_) (fun h3=>?_)
 ·rw[if_pos (of_decide_eq_true h3)] at hav
  rw[hav];refine zy ?_;exact ZAB (ZAC rfl ⟨rfl,hE⟩)
 replace h3:=of_decide_eq_false h3;rw[if_neg h3] at hav;rw[hav];refine zy ?_
 refine ZA5 rfl rfl rfl rfl rfl Bod.h rfl rfl (ZNC hg1 (ZAV.ext (R:=CutR) (fun x _=>x) hcs hE) (fun b o oa e hn hb=>by
  subst e;obtain⟨b',o',oa',e',row,hrow,-⟩:=hcs 0 (List.length_pos_iff.2 hn);cases e';obtain⟨x,hx⟩:=ZFz hrow;have:=hw _ _ hx;omega) (ZMF hok n2) (by omega) hL) ?_
 rintro v h4 ⟨hE4,⟨ha,rfl⟩|⟨q,ha,rfl,hg4,hq⟩⟩
 ·rw[ha]
  refine zy ?_;exact ZAB (ZAC rfl ⟨rfl,hE4.ext hE hw (fun b hb=>by omega)⟩)
 ·rw[ha]
  refine zy ?_;exact ZAB (ZAC rfl ⟨rfl,hE4.ext hE hw (fun b hb=>by omega)⟩)
section
variable {P:Program}{m:Mem}{h:Heap}{d:Option Tmp}{ty:TypeId}{pos:String}{af:Array Edge}{gu:Option (Nat×Bool)}
theorem ZRU {t:TypeId}{x i:Operand}{p v vi:Value}(hx:opk h m x=some p)(hi:opk h m i=some vi)(hv:ZCJ P t p (some vi) none none=some v):Aop P ⟨d,.slice t x (some i) none none,ty,pos,af,gu⟩ m h v h :=
 ZAb fun e hs=>by
  show ZBr P _ h e t x (some i) none none=_
  unfold ZBr;simp only[ZAJ hs hx,opvo,ZAJ hs hi,hv]
theorem ZRl {t:TypeId}{x j:Operand}{p v vj:Value}(hx:opk h m x=some p)(hj:opk h m j=some vj)(hv:ZCJ P t p none (some vj) none=some v):Aop P ⟨d,.slice t x none (some j) none,ty,pos,af,gu⟩ m h v h :=
 ZAb fun e hs=>by
  show ZBr P _ h e t x none (some j) none=_
  unfold ZBr;simp only[ZAJ hs hx,opvo,ZAJ hs hj,hv]
theorem ZPU {t:TypeId}{row:List Value}(hg:Tryz.prog.eqGuardType Tryz.prog.depth t=false)(hf:flat (.agg ⟨row⟩)=true)(hs:ZIf t row){tz:TypeId}{x y:Operand}(hx:opk h m x=some (.agg ⟨row⟩))(hy:opk h m y=some (.agg ⟨row⟩)) :
  Aop Tryz.prog ⟨d,.binOp .eql t x y tz,ty,pos,af,gu⟩ m h (.bool true) h :=
 ZCe hx hy hf hf rfl fun w=>by
  simp only[Sem.run_bind,run_eqGuard_agg _ _ _ _ _ _ _ hg,Result.andThen_ok];rw[run_eql_struct];rw[hs 9997 w]
  rfl
end
theorem ZKO {a b:Option Addr}{ca cb:Nat}{l:List (Int×Int)}{h:Heap}(hl:TabA rowP 2 h a l)(hl':TabA rowP 2 h b l)(hlen:l.length<=100000000):Sv Tryz.prog 35 [.slice a l.length ca,.slice b l.length cb] h (RetP fun v h'=>v=.bool true/\h'=h):=by
 refine ZAF Tryz.func35 rfl (by rw[Tryz.ntmps35];rfl) ?_;show Wc Tryz.prog ⟨35,26,none⟩ _ _ _ _ _;refine zy ?_;refine zD (A_ff (fun q=>q rfl) (ZA3 rfl rfl)) ?_;refine ZAS (fun (k:Nat) m ds h'=>ds=[]/\h=h'/\k<=l.length/\AllK m [(0,.slice a l.length ca),(1,.slice b l.length cb),(5,i64 (k:Nat))]) (fun k=>l.length-k) 0 ?_ ?_
 ·exact⟨rfl,rfl,Nat.zero_le _,rfl,rfl,rfl,trivial⟩
 rintro k m ds h' ⟨rfl,rfl,hk,hall⟩;refine Wc.le ?_ (Le.kn hall);clear hall;refine zy ?_;refine zC (ZAx rfl rfl) (fun hlt=>?_) (fun hlt=>?_);rotate_left
 ·refine zy ?_
  exact ZAB (ZAC rfl ⟨rfl,rfl⟩)
 have hk':k<l.length:=by omega
 obtain⟨b1,o1,oa1,rfl,row1,hr1,hx1⟩:=hl k hk';obtain⟨b2,o2,oa2,rfl,row2,hr2,hx2⟩:=hl' k hk';generalize l[k]=x at *;have e1:row1=rowP x:=hx1;have e2:row2=rowP x:=hx2;subst e1;subst e2;refine zy ?_;refine ZAR hmix [0,0,3,7,0,0,48,112,255] [0,1,2,3,4,5,6,7,8] none [] (by kernel_rfl) (by kernel_rfl) ?_;refine z_m ?_;refine z_m ?_;refine ZAI rfl rfl rfl rfl rfl (fun _=>ZAN (k:=k) Und.h Tsz.h rfl rfl rfl hk') ?_;refine z_r ?_;refine z_m ?_;refine z_m ?_;refine ZAI rfl rfl rfl rfl rfl (fun _=>ZAN (k:=k) Und.h Tsz.h rfl rfl rfl hk') ?_;refine z_r ?_;refine ZAI rfl rfl rfl rfl rfl (fun _=>ZCD (by kernel_rfl) rfl (ZGR x.1 x.2) rfl rfl) ?_
 refine ZAc (ZAA rfl) nb' ?_;refine zy ?_;exact⟨k+1,(by show l.length-(k+1)<l.length-k;omega),rfl,rfl,hk',rfl,rfl,rfl,trivial⟩
theorem ZLt {h0 h:Heap}{v:Value}{el:TypeId}{sz n:Nat}{cs:List Value}(hF:ZAE h0 h v el sz cs n):∃a c,v=.slice a n c:=by
 rcases hF with ⟨e,_,hn⟩|⟨b',sp,op,e,_⟩
 ·exact⟨_,_,by rw[e,hn]⟩
 ·exact⟨_,_,e⟩
theorem ZKx {d:Ads}{h:Heap}(hR:TkAt h tk0 d):Sv Tryz.prog 14 [.agg ⟨ZD9 tk0 d⟩,i64 950] h (RetP fun v h'=>Ext h h'/\v=.tuple ⟨[ZEw 1105 1180,i64 0]⟩):=by
 have:=ZFW (f:=950) fit0 hR;rw[ZQW] at this;exact this
theorem ZMy {d:Ads}{h:Heap}(hR:TkAt h tk0 d):Sv Tryz.prog 14 [.agg ⟨ZD9 tk0 d⟩,i64 20] h (RetP fun v h'=>Ext h h'/\∃p q,v=.tuple ⟨[ZEw p q,i64 4]⟩):=by
 have:=ZFW (f:=20) fit0 hR;rw[ZS3] at this;exact this.ret fun v h' ⟨hE,e⟩=>⟨hE,_,_,e⟩
theorem ZRj {d:Ads}{h:Heap}(hR:TkAt h tk0 d):Sv Tryz.prog 10 [.agg ⟨ZD9 tk0 d⟩] h (RetP fun v h'=>Ext h h'/\∃a1 c1 a2 c2 a3 c3,v=.tuple ⟨[.slice a1 5 c1,.slice a2 0 c2,.slice a3 0 c3,i64 0]⟩/\TabA rowG 4 h' a1 out0):=by
 have:=ZIa fit0 hR;rw[ZUE] at this;refine this.ret ?_;rintro v h' ⟨hE,v1,v2,v3,rfl,⟨a1,c1,rfl,hT1⟩,⟨a2,c2,rfl,-⟩,hF3⟩;obtain⟨a3,c3,rfl⟩:=ZLt hF3;exact⟨hE,a1,c1,a2,c2,a3,c3,rfl,hT1⟩
theorem TabA.from {α:Type}{enc:α->List Value}{k:Nat}{h:Heap}{b o:Nat}{oa:Option Nat}{l:List α}(hT:TabA enc k h (some ⟨b,o,oa⟩) l)(n:Nat):TabA enc k h (some ⟨b,o+n*k,oa⟩) (l.drop n):=fun i hi=>by
 rw[List.length_drop] at hi;obtain⟨b',o',oa',e,row,hr,hx⟩:=hT (n+i) (by omega);cases e;refine⟨_,_,_,rfl,row,?_,?_⟩
 ·rw[<-hr,Nat.add_assoc,<-Nat.add_mul]
 ·rw[List.getElem_drop];exact hx
theorem mg0:ZBN [ZBQ.drop 3,ZBQ.take 4]=0/\(ZAO [ZBQ.drop 3,ZBQ.take 4].flatten).length=7:=by
 have e:ZAO [ZBQ.drop 3,ZBQ.take 4].flatten=ZC8:=(ZHU (fun x=>⟨(show ∀x∈[ZBQ.drop 3,ZBQ.take 4].flatten,x∈ZBQ by decide +kernel) x,(show ∀x∈ZBQ,x∈[ZBQ.drop 3,ZBQ.take 4].flatten by decide +kernel) x⟩)).trans ZJe;rw[e];refine⟨?_,rfl⟩;unfold ZBN;rw[e]
 decide +kernel
theorem ZO3 {h:Heap}{a:Option Addr}{c:Nat}(hL:ZAV 1 CatR h a [ZBQ.drop 3,ZBQ.take 4]):Sv Tryz.prog 6 [.slice a 2 c] h (RetP fun v h'=>Ext h h'/\∃a1 c1,v=.tuple ⟨[.slice a1 7 c1,i64 0]⟩):=by
 have:=ZI7 (c:=c) hL (by decide) (by decide) (by show ∀l∈[ZBQ.drop 3,ZBQ.take 4],∀x∈l,x.who.length<=281474976710656;decide);rw[mg0.1,mg0.2] at this;refine this.ret ?_;rintro v h' ⟨hE,s,rfl,-,hF⟩;obtain⟨a1,c1,rfl⟩:=ZLt (hF rfl);exact⟨hE,a1,c1,rfl⟩
theorem ZT6:ZGp 1000 [⟨10,19⟩,⟨50,59⟩] 100=(80,0):=by decide +kernel
theorem ZPq {h:Heap}{b:Nat}{op:Bool}(hg:h.get b=some (.cells [i64 10,i64 19,i64 50,i64 59] 93 op)):Sv Tryz.prog 32 [i64 1000,.slice (some ⟨b,0,none⟩) 2 2,i64 100] h (RetP fun v h'=>v=.tuple ⟨[i64 80,i64 0]⟩/\Ext h h'):=by
 have:=ZRg (n:=1000) (i:=100) (cs:=[⟨10,19⟩,⟨50,59⟩]) (ac:=some ⟨b,0,none⟩) (cc:=2) (h:=h) (by decide) (by decide) (fun i hi=>?_) (by intro c hc;simp at hc;rcases hc with rfl|rfl <;> exact⟨by decide,by decide⟩) (by decide)
 ·rw[ZT6] at this
  exact this
 ·match i,hi with
  | 0,_=>exact⟨b,0,none,rfl,[i64 10,i64 19],ZAL hg rfl,rfl⟩
  | 1,_=>exact⟨b,0,none,rfl,[i64 50,i64 59],ZAL hg rfl,rfl⟩
theorem ZN0 {h:Heap}{a1:Option Addr}{c1 b:Nat}{cs:List Value}(hcs:cs=out0.flatMap rowG)(hT:TabA rowG 4 h a1 out0)(hg:h.get b=some (.cells cs gapT false)):Sv Tryz.prog 11 [.slice a1 5 c1,.slice (some ⟨b,0,none⟩) 5 5] h (RetP fun v h'=>v=.bool true/\h'=h):=by
 subst hcs;exact ZHK (l:=out0) (ca:=c1) (cb:=5) hT (ZFk (enc:=rowG) (fun _=>rfl) hg) (by decide)
theorem ZMx {h:Heap}{a1:Option Addr}{c1 b:Nat}{cs:List Value}(hcs:cs=[i64 75,i64 149])(hT:TabA rowP 2 h a1 [((75:Int),(149:Int))])(hg:h.get b=some (.cells cs spnT false)):Sv Tryz.prog 35 [.slice a1 1 c1,.slice (some ⟨b,0,none⟩) 1 1] h (RetP fun v h'=>v=.bool true/\h'=h):=by
 subst hcs;exact ZKO (l:=[((75:Int),(149:Int))]) (ca:=c1) (cb:=1) hT (ZFk (enc:=rowP) (l:=[((75:Int),(149:Int))]) (fun _=>rfl) hg) (by decide)
section
variable {h0 h:Heap}{b:Nat}{p v:Value}{I:List It}
theorem ZJk (hw0:WF h0)(he0:Ext h0 h)(hO:Own h0 h (ceI b [p,v] 128 false::I))(hp:p=.pointer none\/p=.pointer (some ⟨b,0,none⟩)):Sv Tryz.prog 79 [.pointer (some ⟨b,0,none⟩)] h (RetP fun _ h'=>Own h0 h' (ceI b [.pointer (some ⟨b,0,none⟩),v] 128 false::I)/\Ext h0 h'):=by
 refine ZA0 fun hw=>?_;have hg:h.get b=_:=hO.p1;refine ZAF Tryz.func79 rfl (by rw[Tryz.ntmps79];rfl) ?_;show Wc Tryz.prog ⟨79,20,none⟩ _ _ _ _ _;refine zy ?_
 rcases hp with rfl|rfl
 ·refine zD (ZGd Und.h rfl rfl) ?_
  refine zD (ZVA (k:=1) rfl Und.h Tryz.underlying205 hg Tsz.h rfl) ?_;refine ZPh rfl (by intro c' e;cases e) rfl rfl (ZSI (fn:=Tryz.prog.funcs[(108:Nat)]!) (by kernel_rfl) (by kernel_rfl) rfl) ?_;refine zy ?_;refine zD (ZTU (i:=(Tryz.prog.info? 128).getD default) rfl Tryz.underlying205 Und.h hg (by kernel_rfl) (by kernel_rfl)) ?_;refine ZAe rfl Tsz.h rfl rfl hg rfl rfl rfl fun h1 hU=>?_;refine zy ?_;exact ZC1 rfl ((hO.putCe hw he0 hw0 hU).imp id id)
 ·refine zD (ZI2 rfl rfl rfl (by intro n e;cases e)) ?_
  refine zD (ZQG rfl rfl (by kernel_rfl) (ZQr (j:=(Tryz.prog.info? 128).getD default) Und.h (by kernel_rfl)) (by intro n e;cases e)) ?_;exact ZC1 rfl ⟨hO,he0⟩
theorem ZHt {bs s:List UInt8}(hw0:WF h0)(he0:Ext h0 h)(hO:Own h0 h (ceI b [p,v] 128 false::slI h0 v 5 1 (u8s bs) bs.length::I))(hp:p=.pointer none\/p=.pointer (some ⟨b,0,none⟩))(hL:bs.length+s.length<=1000000000) :
  Sv Tryz.prog 50 [.pointer (some ⟨b,0,none⟩),str s] h (RetP fun r h'=>r=.tuple ⟨[i64 (s.length:Nat),.nilIface]⟩/\∃v',Own h0 h' (ceI b [.pointer (some ⟨b,0,none⟩),v'] 128 false::slI h0 v' 5 1 (u8s (bs++s)) (bs++s).length::I)/\Ext h0 h'):=by
 refine ZA0 fun hw=>?_;refine ZAF Tryz.func50 rfl (by rw[Tryz.ntmps50];rfl) ?_;show Wc Tryz.prog ⟨50,19,none⟩ _ _ _ _ _;refine zy ?_;refine zR (ZJk hw0 he0 hO hp) ?_;rintro _ h1 ⟨hO1,he1⟩;have hg1:h1.get b=_:=hO1.p1;refine zy ?_;refine ZBH (sz:=1) (k:=s.length) (n:=bs.length) (l:=u8s s) hw0 he1 rfl rfl rfl rfl rfl Und.h inferInstance rfl rfl hO1.up2 (ZSp Und.h) (by rw[ZLb];omega) (ZSv _) (by omega) (by omega) fun v' h2 hw2 hO2 he2=>?_;have hg2:h2.get b=_:=hO2.p2;have hsh:∃a n c,v'=.slice a n c:=by
  rcases (show ZAE _ _ _ _ _ _ _ from hO2.p1) with ⟨e,_⟩|⟨b',sp,op,e,_⟩ <;> exact⟨_,_,_,e⟩
 obtain⟨a,n,c,rfl⟩:=hsh;refine zy ?_;refine ZAe rfl Tsz.h rfl rfl hg2 rfl rfl rfl fun h3 hU=>?_;obtain⟨hO3,he3⟩:=hO2.up2.putCe hw2 he2 hw0 hU;refine zy ?_;refine ZAB (ZAC rfl ⟨rfl,.slice a n c,?_,he3⟩);rw[ZSh,List.length_append];exact hO3
end
end Go.Dw
